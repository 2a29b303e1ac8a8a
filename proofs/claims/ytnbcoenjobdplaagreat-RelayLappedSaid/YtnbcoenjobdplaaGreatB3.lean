import Derived.Test.YtnbcoenjobdplaaGreatB2
import Derived.Test.YtnbcoenjobdplaaGreatB0
import Derived.Lib.SlicesCompact
import Derived.Test.YtnbcoenjobdplaaGreatB1
set_option linter.all false
open Option renaming bind_some->hM,getD_none->kP
open List renaming pairwise_iff_getElem->nA,getElem_of_mem->nB,set->nD,take_length->nE,getElem_map->nG,length_map->nH,length_cons->nI,mem_append->nJ,nodup_iff_pairwise_ne->nK,length_append->nL,not_mem_nil->nO,mem_map->nP,map_append->nQ,zipWith->nR,mem_cons->nS,mem_singleton->nT,length_nil->nU,length_filter_le->nV,length_set->nW,length_take->nY,range->nZ,mem_filter->ng,flatMap->nh,mem_of_mem_take->ni,getElem?_eq_getElem->nk,pairwise_mergeSort->nm,nodup_append->np,append_assoc->nr,cons_append->nu,pairwise_append->nw,map_map->ny,countP_eq_zero->nz,mergeSort_perm->kA,filter_sublist->kB,replicate->kC,pairwise_cons->kH,filter_append->kI,pairwise_map->kK,mem_or_eq_of_mem_set->kL,all_eq_true->kM,pairwise_singleton->kQ,take_append_drop->kR,mem_append_right->kS,any_cons->kU,all_cons->kV,map_take->kW,mem_cons_self->kY,getElem_range->ka,length_range->kb,foldl_append->kc,any_eq_false->kd,filter_congr->ke,map->kf
open Int renaming toNat_natCast->nM,le_refl->nN,mul_nonneg->kD,mul_le_mul->kE,tmod_eq_emod_of_nonneg->kJ,le_of_lt->kO
open Bool renaming not_eq_true'->nX,noConfusion->nv,false_eq_true->kG
open Option.some renaming inj->na
open Nat renaming le_trans->nj,lt_or_ge->nl,lt_trichotomy->ns,le_refl->kF,mul_le_mul->kT,zero_add->kZ
open Go.Value renaming int->kX
open List.Perm renaming of_eq->kg
namespace Go.KL
open Go.RowKit Go.Lib Go.Sort
def wHe (l:List Int):Option (List Int):=if l.length < 4611686018427387904 then some (Go.Lib.compact l) else none
theorem wJs (l:List Int):(Go.Lib.compact l).length <= l.length:=by
 unfold Go.Lib.compact Go.Lib.compactUpTo
 rw [nH]
 exact nj (nV _ _) (by simp)
theorem wJt {P:Program} {f T:Nat} {A:Option Addr} {c:Nat} {p r:List Int} {w:World} {U:PHeap}
  (H:∀ (blk off cap:Nat) (zs:List Int) (w:World),Go.Sort.Holds (kX .i64) w blk off zs.toArray->zs.length <= 9223372036854775807->zs.length <= cap->Calls P f #[.slice (some ⟨blk,off,none⟩) zs.length cap] w fun e w'=>e=.returned (.slice (some ⟨blk,off,none⟩) (Go.Lib.compact zs).length cap)/\∃ q,w'=Go.Sort.putRow (kX .i64) (Go.Sort.ahead w q) blk off (Go.Lib.compact zs ++ kC (zs.length - (Go.Lib.compact zs).length) 0).toArray)
  (HN:∀ (p:Option Addr) (cap:Nat) (w:World),Calls P f #[.slice p 0 cap] w fun e w'=>e=.returned (.slice p 0 cap)/\w'=w)
  (hS:St ⟨w,[.row A c T 1 (nh encI p)],U⟩ U [.row A c T 1 (nh encI p)] w) (hm:wHe p=some r) :
  Gv P f [.slice A p.length c] w (wBU w [.row A c T 1 (nh encI p)] U fun U_ L_ v=>∃ (A0:Option Addr) (c0:Nat),v=.slice A0 r.length c0/\L_=[.row A0 c0 T 1 (nh encI r)]):=by
 unfold wHe at hm
 split at hm
 ·rename_i hlen
  cases hm
  have hfl:∀ l:List Int,l.flatMap encI=l.map (kX .i64):=fun l=>wHs l
  have hr:=hS.at_ _ (kY ..)
  have nil:p=[]->Gv P f [.slice A p.length c] w (wBU w [.row A c T 1 (nh encI p)] U fun U_ L_ v=>∃ (A0:Option Addr) (c0:Nat),v=.slice A0 (Go.Lib.compact p).length c0/\L_=[.row A0 c0 T 1 (nh encI (Go.Lib.compact p))]):=by
   rintro rfl
   refine Calls.mono' (HN A c w) ?_
   rintro e w' ⟨rfl,rfl⟩
   exact ⟨_,rfl,U,_,hS,A,c,rfl,rfl⟩
  rcases hr with ⟨rfl,rfl,h0⟩ | ⟨b,cur,rfl,h1,h2,_⟩
  ·refine nil ?_
   rw [hfl] at h0
   simpa using h0
  ·obtain ⟨g1,g2⟩:=hS.holds (k:=0) rfl
   rw [hfl] at g1 h2
   refine Calls.mono' (H b 0 c p w (wJF _ _ _ _ _ (by simpa using g1)) (by omega) (by simpa using h2)) ?_
   rintro e w' ⟨rfl,n,rfl⟩
   have hl:=wJs p
   have s1:=hS.sorted (k:=0) (n:=n) (os:=#[]) (cs':=(Go.Lib.compact p ++ kC (p.length - (Go.Lib.compact p).length) 0).map (kX .i64)) rfl (by rw [hfl];simp;omega)
   have e0:∀ x:World,Go.Sort.grow x #[]=x:=fun x=>by simp [Go.Sort.grow]
   rw [e0,nQ] at s1
   have s2:=s1.cutRow (k:=0) rfl
   refine ⟨_,rfl,U,[.row (some ⟨b,0,none⟩) c T 1 (nh encI (Go.Lib.compact p))],?_,_,c,rfl,rfl⟩
   rw [wIX,hfl (Go.Lib.compact p)]
   simpa using s2
 ·cases hm
end Go.KL
namespace Go.Proofs.YtnbcoenjobdplaaGreat
open Go.KL
noncomputable section
structure wAE where
 bytes:List Int
 next:Int
 state:Int
deriving DecidableEq,Inhabited,Repr
structure wAJ where
 Classes:List Int
 Each:Int
 Laps:Int
 Spare:Int
 Loop:Int
 Unused:Int
deriving DecidableEq,Inhabited,Repr
structure wAA where
 Skier:Int
 Loops:List Int
 Bouts:List (List Bool)
deriving DecidableEq,Inhabited,Repr
structure wAD where
 Bib:Int
 Classes:List Int
 Legs:List wAA
deriving DecidableEq,Inhabited,Repr
structure wAI where
 Rules:wAJ
 Start:Int
 Teams:List wAD
deriving DecidableEq,Inhabited,Repr
structure wAQ where
 of:(wAJ->Option Int)
 lo:Int
 hi:Int
structure wAW where
 Spares:Int
 Loops:Int
 Unused:Int
deriving DecidableEq,Inhabited,Repr
structure wDY where
 Race:wAI
 after:List (List Int)
deriving DecidableEq,Inhabited,Repr
structure wAP where
 Laps:Int
 Bibs:List Int
 Times:List (List Int)
deriving DecidableEq,Inhabited,Repr
structure wAL where
 Race:wAP
 done:List Int
 out:List Bool
deriving DecidableEq,Inhabited,Repr
structure wAH where
 Bib:Int
 Done:Int
 Time:Int
 By:Int
deriving DecidableEq,Inhabited,Repr
structure wAB where
 Bib:Int
 Place:Int
 Time:Int
deriving DecidableEq,Inhabited,Repr
structure wBV where
 Classes:List Int
 Times:List (List Int)
deriving DecidableEq,Inhabited,Repr
structure wAl where
 Squad:wBV
 rules:wAJ
deriving DecidableEq,Inhabited,Repr
structure wAO where
 Lo:Int
 Hi:Int
deriving DecidableEq,Inhabited,Repr
def wDZ (p0:List Int):Option (wAE) :=
 some (⟨p0,0,17⟩:wAE)
def wAK (p0:wAE) (p1:Int):Option (Int × wAE) :=
 if p1 <= 1 then
  some (0,p0)
 else
  if (↑p0.bytes.length:Int)=0 then
   some (0,p0)
  else
   (rem p0.next (↑p0.bytes.length:Int)).bind fun x10 =>
   (idx p0.bytes x10).bind fun x13 =>
   (quo p0.next (↑p0.bytes.length:Int)).bind fun x20 =>
   (rem (wFh ((wFh ((wFh ((wFh (p0.state * 45)) + (wFh x13))) + (wFh (77 * (wFh x20))))) + 1)) 65519).bind fun x32 =>
   if (wFh x20)=0 then
    if p1 <= 256 then
     (rem (w64 (wFh x13)) p1).bind fun x42 =>
     some (x42,(⟨p0.bytes,w64 (p0.next + 1),x32⟩:wAE))
    else
     (rem (w64 (wFh ((wFh (x32 * 256)) + (wFh x13)))) p1).bind fun x46 =>
     some (x46,(⟨p0.bytes,w64 (p0.next + 1),x32⟩:wAE))
   else
    (rem (w64 (wFh ((wFh (x32 * 256)) + (wFh x13)))) p1).bind fun x50 =>
    some (x50,(⟨p0.bytes,w64 (p0.next + 1),x32⟩:wAE))
def wAS (p0:wAE) (p1:Int) (p2:Int):Option (Int × wAE) :=
 (wAK p0 (w64 ((w64 (p2 - p1)) + 1))).bind fun (x2,x3) =>
 some (w64 (p1 + x2),x3)
def wCS (p0:wAE) (p1:Int):Option (wAJ × wAE) :=
 (wAS p0 1 2).bind fun (x6,x7) =>
 (wAS x7 1 3).bind fun (x21,x22) =>
 (wAK x22 100).bind fun (x35,x36) =>
 (wAK x36 100).bind fun (x49,x50) =>
 (wAK x50 13).bind fun (x63,x64) =>
 (wAS x64 1 p1).bind fun (x84,x85) =>
 (wBc 0 x84 (fun k136 (l127,x130,x131,l132) =>
  (wAK (⟨l127,x130,x131⟩:wAE) 2).bind fun (x198,x199) =>
  (app 8 l132 [x198]).bind fun x217 =>
  some (x199.bytes,x199.next,x199.state,x217)) (x85.bytes,x85.next,x85.state,[])).bind fun (y141,y142,y143,y144) =>
 some ((⟨y144,x6,x21,x35,w64 (200 + x49),w64 (100 * x63)⟩:wAJ),(⟨y141,y142,y143⟩:wAE))
def wAc (p0:wAE) (p1:Int):Option (Bool × wAE) :=
 (wAK p0 p1).bind fun (x2,x3) =>
 some (decide (x2=0),x3)
def wAi (p0:wAE):Option ((List Bool) × wAE) :=
 iter (fun (l31,x34,x35,l36,x40) =>
  if x40 < 5 then
   if (↑l36.length:Int) < 5 then
    (wAc (⟨l31,x34,x35⟩:wAE) 4).bind fun (x61,x62) =>
    (app 1 l36 [!x61]).bind fun x80 =>
    if x61=true then
     some (.inl (x62.bytes,x62.next,x62.state,x80,x40))
    else
     some (.inl (x62.bytes,x62.next,x62.state,x80,w64 (x40 + 1)))
   else
    if (↑l36.length:Int) < 8 then
     (wAc (⟨l31,x34,x35⟩:wAE) 6).bind fun (x112,x113) =>
     if x112=true then
      esc (some (l36,x113))
     else
      (wAc x113 4).bind fun (x132,x133) =>
      (app 1 l36 [!x132]).bind fun x151 =>
      if x132=true then
       some (.inl (x133.bytes,x133.next,x133.state,x151,x40))
      else
       some (.inl (x133.bytes,x133.next,x133.state,x151,w64 (x40 + 1)))
    else
     esc (some (l36,(⟨l31,x34,x35⟩:wAE)))
  else
   esc (some (l36,(⟨l31,x34,x35⟩:wAE)))) big (p0.bytes,p0.next,p0.state,[],(0:Int))
def wCA (p0:wAE) (p1:Int) (p2:Int):Option (wAI × wAE) :=
 (wCS p0 p2).bind fun (x6,x7) =>
 (wAK x7 50).bind fun (x24,x25) =>
 (wAS x25 1 p1).bind fun (x46,x47) =>
 (wBc 0 x46 (fun k102 (l92,x95,x96,l97) =>
  (wAS (⟨l92,x95,x96⟩:wAE) 1 9).bind fun (x131,x132) =>
  (wAS x132 1 5).bind fun (x152,x153) =>
  (wBc 0 x152 (fun k204 (l195,x198,x199,l200) =>
   (wAK (⟨l195,x198,x199⟩:wAE) 2).bind fun (x269,x270) =>
   (app 8 l200 [x269]).bind fun x288 =>
   some (x270.bytes,x270.next,x270.state,x288)) (x153.bytes,x153.next,x153.state,[])).bind fun (y209,y210,y211,y212) =>
  (wAS (⟨y209,y210,y211⟩:wAE) 300 900).bind fun (x355,x356) =>
  (wAc x356 4).bind fun (x369,x370) =>
  if x369=true then
   (wAK x370 (w64 ((w64 ((↑x6.Classes.length:Int) * x6.Laps)) + 1))).bind fun (x385,x386) =>
   (iter (fun (l443,x446,x447,l448,x453) =>
    if 0 < x453 then
     (wAK (⟨l443,x446,x447⟩:wAE) (↑y212.length:Int)).bind fun (x478,x479) =>
     iter (fun (l566,l570,l575,x578,x579,x580,x581) =>
      if x581 < x6.Laps then
       if 0 < x580 then
        (wAK (⟨l575,x578,x579⟩:wAE) 200).bind fun (x647,x648) =>
        (app 8 l566 [w64 (x355 + x647)]).bind fun x667 =>
        if 0 < x581 then
         (wAi x648).bind fun (x735,x736) =>
         (app 24 l570 [x735]).bind fun x768 =>
         some (.inl (x667,x768,x736.bytes,x736.next,x736.state,w64 (x580 - 1),w64 (x581 + 1)))
        else
         some (.inl (x667,l570,x648.bytes,x648.next,x648.state,w64 (x580 - 1),w64 (x581 + 1)))
       else
        esc ((app 56 l448 [(⟨x478,l566,l570⟩:wAA)]).bind fun x849 =>
        some (.inl (l575,x578,x579,x849,x580)))
      else
       esc ((app 56 l448 [(⟨x478,l566,l570⟩:wAA)]).bind fun x912 =>
       some (.inl (l575,x578,x579,x912,x580)))) big ([],[],x479.bytes,x479.next,x479.state,x453,(0:Int))
    else
     esc (some (l443,x446,x447,l448))) big (x386.bytes,x386.next,x386.state,[],x385)).bind fun (l399,x402,x403,l404) =>
   (app 56 l97 [(⟨w64 ((w64 (9 * (↑k102:Int))) + x131),y212,l404⟩:wAD)]).bind fun x997 =>
   some (l399,x402,x403,x997)
  else
   (iter (fun (l1077,x1080,x1081,l1082,x1087) =>
    if 0 < x1087 then
     (wAK (⟨l1077,x1080,x1081⟩:wAE) (↑y212.length:Int)).bind fun (x1112,x1113) =>
     iter (fun (l1200,l1204,l1209,x1212,x1213,x1214,x1215) =>
      if x1215 < x6.Laps then
       if 0 < x1214 then
        (wAK (⟨l1209,x1212,x1213⟩:wAE) 200).bind fun (x1281,x1282) =>
        (app 8 l1200 [w64 (x355 + x1281)]).bind fun x1301 =>
        if 0 < x1215 then
         (wAi x1282).bind fun (x1369,x1370) =>
         (app 24 l1204 [x1369]).bind fun x1402 =>
         some (.inl (x1301,x1402,x1370.bytes,x1370.next,x1370.state,w64 (x1214 - 1),w64 (x1215 + 1)))
        else
         some (.inl (x1301,l1204,x1282.bytes,x1282.next,x1282.state,w64 (x1214 - 1),w64 (x1215 + 1)))
       else
        esc ((app 56 l1082 [(⟨x1112,l1200,l1204⟩:wAA)]).bind fun x1483 =>
        some (.inl (l1209,x1212,x1213,x1483,x1214)))
      else
       esc ((app 56 l1082 [(⟨x1112,l1200,l1204⟩:wAA)]).bind fun x1546 =>
       some (.inl (l1209,x1212,x1213,x1546,x1214)))) big ([],[],x1113.bytes,x1113.next,x1113.state,x1087,(0:Int))
    else
     esc (some (l1077,x1080,x1081,l1082))) big (x370.bytes,x370.next,x370.state,[],w64 ((↑x6.Classes.length:Int) * x6.Laps))).bind fun (l1033,x1036,x1037,l1038) =>
   (app 56 l97 [(⟨w64 ((w64 (9 * (↑k102:Int))) + x131),y212,l1038⟩:wAD)]).bind fun x1631 =>
   some (l1033,x1036,x1037,x1631)) (x47.bytes,x47.next,x47.state,[])).bind fun (y107,y108,y109,y110) =>
 some ((⟨x6,x24,y110⟩:wAI),(⟨y107,y108,y109⟩:wAE))
def wCZ (p0:Int) (p1:Int):Option (Int) :=
 if p1 <= 0 then
  some 0
 else
  (rem p0 p1).bind fun x4 =>
  (rem (w64 (x4 + p1)) p1).bind fun x7 =>
  some x7
def wBR (p0:Int) (p1:Int) (p2:Int):Option (Bool) :=
 if p1 <= p0 then
  some (decide (p0 <= p2))
 else
  some false
def wCM (p0:Int) (p1:(Int->Option Bool)):Option (Bool) :=
 (p1 p0).bind fun x1 =>
 some (!x1)
def wBw (p0:List Int) (p1:(Int->Option Bool)):Option (Int) :=
 jn (wEs 0 (↑p0.length:Int) (fun k2 _ =>
  (idx p0 (↑k2:Int)).bind fun x22 =>
  (p1 x22).bind fun x30 =>
  if x30=true then
   esc (some (↑k2:Int))
  else
   some (.inl ())) ()) fun _ =>
 some (-1)
def wBW (p0:List Int) (p1:(Int->Option Bool)):Option (Bool) :=
 (wBw p0 p1).bind fun x1 =>
 some (decide (0 <= x1))
def wBJ (p0:List Int) (p1:(Int->Option Bool)):Option (Bool) :=
 (wBW p0 (fun x=>wCM x p1)).bind fun x13 =>
 some (!x13)
def wBK (p0:Int):Option (Bool) :=
 (wBR p0 0 3).bind fun x1 =>
 some x1
def wCJ (p0:List Int):Option (Bool) :=
 (wBJ p0 wBK).bind fun x2 =>
 some x2
def wBq (p0:wAJ):Option (Int) :=
 some p0.Each
def wBr (p0:wAJ):Option (Int) :=
 some p0.Laps
def wBs (p0:wAJ):Option (Int) :=
 some p0.Spare
def wBt (p0:wAJ):Option (Int) :=
 some p0.Loop
def wBu (p0:wAJ):Option (Int) :=
 some p0.Unused
def wEI :Option ((List wAQ)) :=
 some [(⟨wBq,1,4⟩:wAQ),(⟨wBr,1,5⟩:wAQ),(⟨wBs,0,600⟩:wAQ),(⟨wBt,0,600⟩:wAQ),(⟨wBu,0,6000⟩:wAQ)]
def wBn (p0:wAQ) (p1:wAJ):Option (Bool) :=
 (p0.of p1).bind fun x7 =>
 (wBR x7 p0.lo p0.hi).bind fun x17 =>
 some x17
def wAx (p0:wAQ) (p1:(wAQ->Option Bool)):Option (Bool) :=
 (p1 p0).bind fun x5 =>
 some (!x5)
def wAn (p0:List wAQ) (p1:(wAQ->Option Bool)):Option (Int) :=
 jn (wEs 0 (↑p0.length:Int) (fun k2 _ =>
  (idx p0 (↑k2:Int)).bind fun x22 =>
  (p1 x22).bind fun x34 =>
  if x34=true then
   esc (some (↑k2:Int))
  else
   some (.inl ())) ()) fun _ =>
 some (-1)
def wAk (p0:List wAQ) (p1:(wAQ->Option Bool)):Option (Bool) :=
 (wAn p0 p1).bind fun x1 =>
 some (decide (0 <= x1))
def wBa (p0:List wAQ) (p1:(wAQ->Option Bool)):Option (Bool) :=
 (wAk p0 (fun x=>wAx x p1)).bind fun x13 =>
 some (!x13)
def wCN (p0:wAJ):Option (Int) :=
 (wBR (↑p0.Classes.length:Int) 1 4).bind fun x10 =>
 if x10=true then
  (wCJ p0.Classes).bind fun x25 =>
  if x25=true then
   (wEI).bind fun x37 =>
   (wBa x37 (fun x=>wBn x p0)).bind fun x64 =>
   if x64=true then
    some 0
   else
    some 3
  else
   some 3
 else
  some 2
def wBX (p0:wAJ) (p1:wAD):Option (Bool) :=
 (wBR (↑p1.Classes.length:Int) 1 8).bind fun x9 =>
 if x9=true then
  if (↑p0.Classes.length:Int) < (↑p1.Legs.length:Int) then
   some false
  else
   jn (wEs 0 (↑p1.Legs.length:Int) (fun k25 _ =>
    (idx p1.Legs (↑k25:Int)).bind fun x46 =>
    if p0.Laps < (↑x46.Loops.length:Int) then
     esc (some false)
    else
     if (↑k25:Int) < (w64 ((↑p1.Legs.length:Int) - 1)) then
      if (↑x46.Loops.length:Int) < p0.Laps then
       esc (some false)
      else
       if (↑x46.Bouts.length:Int)=(max 0 (w64 ((↑x46.Loops.length:Int) - 1))) then
        some (.inl ())
       else
        esc (some false)
     else
      if (↑x46.Bouts.length:Int)=(max 0 (w64 ((↑x46.Loops.length:Int) - 1))) then
       some (.inl ())
      else
       esc (some false)) ()) fun _ =>
   some true
 else
  some false
def wAz (p0:wAD) (p1:(wAD->Option Bool)):Option (Bool) :=
 (p1 p0).bind fun x5 =>
 some (!x5)
def wAq (p0:List wAD) (p1:(wAD->Option Bool)):Option (Int) :=
 jn (wEs 0 (↑p0.length:Int) (fun k2 _ =>
  (idx p0 (↑k2:Int)).bind fun x22 =>
  (p1 x22).bind fun x38 =>
  if x38=true then
   esc (some (↑k2:Int))
  else
   some (.inl ())) ()) fun _ =>
 some (-1)
def wAm (p0:List wAD) (p1:(wAD->Option Bool)):Option (Bool) :=
 (wAq p0 p1).bind fun x1 =>
 some (decide (0 <= x1))
def wBL (p0:List wAD) (p1:(wAD->Option Bool)):Option (Bool) :=
 (wAm p0 (fun x=>wAz x p1)).bind fun x13 =>
 some (!x13)
def wCx (p0:wAD):Option (Bool) :=
 (wBR p0.Bib 1 999).bind fun x5 =>
 if x5=true then
  (wCJ p0.Classes).bind fun x18 =>
  some x18
 else
  some false
def wBY {S E:Type} (f:S->(wAD × wAA)->Option (S ⊕ E)) (s0:S) (p1:wAI):Option (S ⊕ E) :=
 jn (wEs 0 (↑p1.Teams.length:Int) (fun k12 s10 =>
  (idx p1.Teams (↑k12:Int)).bind fun x33 =>
  jn (wEs 0 (↑x33.Legs.length:Int) (fun k66 s64 =>
   (idx x33.Legs (↑k66:Int)).bind fun x91 =>
   (f s64 (x33,x91)).bind fun yr115 =>
   match yr115 with
   | .inl s125 =>
    some (.inl s125)
   | .inr s125 =>
    esc (esc (some (.inr s125)))) s10) fun y142 =>
  some (.inl y142)) s0) fun y163 =>
 some (.inl y163)
def wCa (p0:wAI):Option (Unit) :=
 some ()
def wCd (p0:Int):Option (Bool) :=
 (wBR p0 1 9000).bind fun x1 =>
 some x1
def wCn (p0:List Bool):Option (wAW × Int) :=
 (wBR (↑p0.length:Int) 5 8).bind fun x5 =>
 if x5=true then
  jn (wEs 0 (↑p0.length:Int) (fun k23 x22 =>
   (idx p0 (↑k23:Int)).bind fun x45 =>
   if x22=0 then
    esc (some ((⟨0,0,0⟩:wAW),8))
   else
    if x45=true then
     some (.inl (w64 (x22 - 1)))
    else
     some (.inl x22)) 5) fun y72 =>
  if 0 < y72 then
   some ((⟨w64 ((↑p0.length:Int) - 5),y72,w64 (8 - (↑p0.length:Int))⟩:wAW),0)
  else
   some ((⟨w64 ((↑p0.length:Int) - 5),y72,0⟩:wAW),0)
 else
  some ((⟨0,0,0⟩:wAW),2)
def wDc (p0:wAI):Option (Int) :=
 (wCN p0.Rules).bind fun x9 =>
 if x9=0 then
  (wBR (↑p0.Teams.length:Int) 1 12).bind fun x21 =>
  if x21=true then
   (wBL p0.Teams (fun x=>wBX p0.Rules x)).bind fun x38 =>
   if x38=true then
    (wBR p0.Start 0 36000).bind fun x50 =>
    if x50=true then
     (wBL p0.Teams wCx).bind fun x65 =>
     if x65=true then
      (wCa p0).bind fun _ =>
      (wBY (S:=Unit) (E:=Int) (fun _ x146 =>
       (wBJ x146.2.Loops wCd).bind fun x191 =>
       if x191=true then
        some (.inl ())
       else
        some (.inr 3)) () p0).bind fun rr138 =>
      match rr138 with
      | .inl _ =>
       (wCa p0).bind fun _ =>
       (wBY (S:=Unit) (E:=Int) (fun _ x290 =>
        (wBR x290.2.Skier 0 (w64 ((↑x290.1.Classes.length:Int) - 1))).bind fun x341 =>
        if x341=true then
         some (.inl ())
        else
         some (.inr 1)) () p0).bind fun rr282 =>
       match rr282 with
       | .inl _ =>
        (wCa p0).bind fun _ =>
        (wBY (S:=Unit) (E:=Int) (fun _ x492 =>
         jn (wEs 0 (↑x492.2.Bouts.length:Int) (fun k537 _ =>
          (idx x492.2.Bouts (↑k537:Int)).bind fun x558 =>
          (wCn x558).bind fun (x571,x572) =>
          if x572=0 then
           some (.inl ())
          else
           esc (some (.inr x572))) ()) fun _ =>
         some (.inl ())) () p0).bind fun rr484 =>
        match rr484 with
        | .inl _ =>
         (wBc 0 (↑p0.Teams.length:Int) (fun k640 l637 =>
          (idx p0.Teams (↑k640:Int)).bind fun x664 =>
          some (wGS l637 x664.Bib true)) ([]:List (Int × Bool))).bind fun y645 =>
         if (↑(y645.length):Int) < (↑p0.Teams.length:Int) then
          some 5
         else
          some 0
        | .inr y618 =>
         some y618
       | .inr y364 =>
        some y364
      | .inr y214 =>
       some y214
     else
      some 3
    else
     some 3
   else
    some 2
  else
   some 2
 else
  some x9
def wCo (p0:wAI):Option ((Option wDY) × Int) :=
 (wDc p0).bind fun x5 =>
 if x5=0 then
  (wBc 0 (↑p0.Teams.length:Int) (fun k42 l37 =>
   (idx p0.Teams (↑k42:Int)).bind fun x66 =>
   (wBc 0 (↑x66.Legs.length:Int) (fun k111 (x106,l107) =>
    (idx x66.Legs (↑k111:Int)).bind fun x140 =>
    (wBc 0 (↑x140.Loops.length:Int) (fun k181 (x177,l178) =>
     (idx x140.Loops (↑k181:Int)).bind fun x211 =>
     if 0 < (↑k181:Int) then
      (idx x140.Bouts (w64 ((↑k181:Int) - 1))).bind fun x221 =>
      (wCn x221).bind fun (x234,x235) =>
      (app 8 l178 [w64 ((w64 (x177 + x211)) + (w64 ((w64 (x234.Spares * p0.Rules.Spare)) + (w64 (x234.Loops * p0.Rules.Loop)))))]).bind fun x274 =>
      some (w64 ((w64 (x177 + x211)) + (w64 ((w64 (x234.Spares * p0.Rules.Spare)) + (w64 (x234.Loops * p0.Rules.Loop))))),x274)
     else
      (app 8 l178 [w64 (x177 + x211)]).bind fun x292 =>
      some (w64 (x177 + x211),x292)) (x106,l107)).bind fun (y186,y187) =>
    some (y186,y187)) (p0.Start,[])).bind fun (y116,y117) =>
   (app 24 l37 [y117]).bind fun x366 =>
   some x366) []).bind fun y47 =>
  some ((some (⟨p0,y47⟩:wDY)),0)
 else
  some (none,x5)
def wBB (p0:List Int):Option ((List Int)) :=
 (app 8 ([]:List Int) p0).bind fun x11 =>
 some x11
def wBM (p0:wDY):Option (wAP) :=
 (wBc 0 (↑p0.Race.Teams.length:Int) (fun k51 (l42,l46) =>
  (idx p0.Race.Teams (↑k51:Int)).bind fun x80 =>
  (app 8 l42 [x80.Bib]).bind fun x108 =>
  (idx p0.after (↑k51:Int)).bind fun x121 =>
  (wBB x121).bind fun x134 =>
  (app 24 l46 [x134]).bind fun x158 =>
  some (x108,x158)) ([],[])).bind fun (y56,y57) =>
 some (⟨w64 ((↑p0.Race.Rules.Classes.length:Int) * p0.Race.Rules.Laps),y56,y57⟩:wAP)
def wDs (p0:wAI):Option (wAP × Int) :=
 (wCo p0).bind fun (x9,x10) =>
 match x9 with
 | none =>
  if x10=0 then
   none
  else
   some ((⟨0,[],[]⟩:wAP),x10)
 | some x28 =>
  if x10=0 then
   (wBM x28).bind fun x55 =>
   some (x55,0)
  else
   some ((⟨0,[],[]⟩:wAP),x10)
def wEE (p0:Int) (p1:Int) (p2:Int):Option (Bool) :=
 if p1 <= p0 then
  some (decide (p0 <= p2))
 else
  some false
def wCB (p0:List Int) (p1:wAP):Option (Bool) :=
 some (decide ((↑p0.length:Int) <= p1.Laps))
def wCy (p0:List (List Int)) (p1:((List Int)->Option Bool)):Option (Bool) :=
 jn (wEs 0 (↑p0.length:Int) (fun k2 _ =>
  (idx p0 (↑k2:Int)).bind fun x22 =>
  (p1 x22).bind fun x35 =>
  if x35=true then
   some (.inl ())
  else
   esc (some false)) ()) fun _ =>
 some true
def wCO (p0:List Int) (p1:(Int->Option Bool)):Option (Bool) :=
 jn (wEs 0 (↑p0.length:Int) (fun k2 _ =>
  (idx p0 (↑k2:Int)).bind fun x22 =>
  (p1 x22).bind fun x30 =>
  if x30=true then
   some (.inl ())
  else
   esc (some false)) ()) fun _ =>
 some true
def wCC (p0:Int):Option (Bool) :=
 (wEE p0 1 999).bind fun x1 =>
 some x1
def wBb (p0:Int):Option (Bool) :=
 (wEE p0 0 360000).bind fun x1 =>
 some x1
def wCD (p0:List Int):Option (Bool) :=
 (wCO p0 wBb).bind fun x2 =>
 some x2
def wDu (p0:List Int):Option (Bool) :=
 jn (wEs 0 (↑p0.length:Int) (fun k20 l17 =>
  (idx p0 (↑k20:Int)).bind fun x41 =>
  if (wEW l17 x41 false)=true then
   esc (some true)
  else
   some (.inl (wGS l17 x41 true))) ([]:List (Int × Bool))) fun y68 =>
 some false
def wCb (p0:wAP):Option (Int) :=
 (wEE p0.Laps 1 20).bind fun x10 =>
 if x10=true then
  if 60 < (↑p0.Bibs.length:Int) then
   some 2
  else
   if (↑p0.Times.length:Int)=(↑p0.Bibs.length:Int) then
    (wCy p0.Times (fun x=>wCB x p0)).bind fun x33 =>
    if x33=true then
     (wCO p0.Bibs wCC).bind fun x48 =>
     if x48=true then
      (wCy p0.Times wCD).bind fun x64 =>
      if x64=true then
       (wDu p0.Bibs).bind fun x79 =>
       if x79=true then
        some 5
       else
        jn (wEs 0 (↑p0.Times.length:Int) (fun k97 _ =>
         (idx p0.Times (↑k97:Int)).bind fun x116 =>
         jn (wEs 1 (↑x116.length:Int) (fun k132 _ =>
          (idx x116 (1 + ↑k132:Int)).bind fun x155 =>
          (idx x116 (w64 ((1 + ↑k132:Int) - 1))).bind fun x163 =>
          if x155 <= x163 then
           esc (esc (some 4))
          else
           some (.inl ())) ()) fun _ =>
         some (.inl ())) ()) fun _ =>
        some 0
      else
       some 3
     else
      some 3
    else
     some 2
   else
    some 2
 else
  some 2
def wCK (p0:List Int) (p1:Int):Option ((List Int)) :=
 if p1 < 0 then
  none
 else
  if 0 < (w64 (p1 - 0)) then
   (appZ 8 (w64 (p1 - 0)) (0:Int)).bind fun x6 =>
   some ([]:List Int)
  else
   some []
def wBf (p0:List (List Int)):Option ((List Int)) :=
 (wBc 0 (↑p0.length:Int) (fun k7 x6 =>
  (idx p0 (↑k7:Int)).bind fun x29 =>
  if (w64 (x6 + (↑x29.length:Int))) < 0 then
   none
  else
   some (w64 (x6 + (↑x29.length:Int)))) 0).bind fun y12 =>
 (wCK [] y12).bind fun x59 =>
 (wBc 0 (↑p0.length:Int) (fun k86 l83 =>
  (idx p0 (↑k86:Int)).bind fun x107 =>
  (app 8 l83 x107).bind fun x122 =>
  some x122) x59).bind fun y91 =>
 some y91
def wCp (p0:List Int):Option (List Int):=wMo p0
def wCP (p0:List Int):Option (List Int):=wHe p0
def wBA {S E:Type} (f:S->Int->Option (S ⊕ E)) (s0:S) (p1:List Int):Option (S ⊕ E) :=
 jn (wEs 0 (↑p1.length:Int) (fun k12 s10 =>
  (idx p1 (↑k12:Int)).bind fun x33 =>
  (f s10 x33).bind fun yr41 =>
  match yr41 with
  | .inl s51 =>
   some (.inl s51)
  | .inr s51 =>
   esc (some (.inr s51))) s0) fun y65 =>
 some (.inl y65)
def wCY (p0:List Int):Option (Unit) :=
 some ()
def wCQ (p0:wAP):Option ((List Int)) :=
 (wBf p0.Times).bind fun x5 =>
 (wCp x5).bind fun x18 =>
 (wCP x18).bind fun x29 =>
 (wCY x29).bind fun _ =>
 some x29
def wBG (p0:wAL) (p1:Int) (p2:Int) (p3:Int):Option (Int) :=
 (wBc 0 (↑p0.done.length:Int) (fun k7 x6 =>
  ((idx p0.done (↑k7:Int)).bind fun x35 =>
  (idx p0.out (↑k7:Int)).bind fun x46 =>
  if x46=true then
   some x6
  else
   if (w64 (p2 + 2)) <= x35 then
    (idx p0.Race.Times (↑k7:Int)).bind fun x60 =>
    (idx x60 (w64 (x35 - 1))).bind fun x73 =>
    if x73=p3 then
     if x6 < 0 then
      some (↑k7:Int)
     else
      (idx p0.Race.Bibs (↑k7:Int)).bind fun x96 =>
      (idx p0.Race.Bibs x6).bind fun x104 =>
      if x96 < x104 then
       some (↑k7:Int)
      else
       some x6
    else
     some x6
   else
    some x6).bind fun x31 =>
  some x31) (-1)).bind fun y12 =>
 some y12
def wBH (p0:wAL) (p1:Int):Option ((List Int) × wAL) :=
 (wBc 0 (↑p0.Race.Times.length:Int) (fun k10 l9 =>
  (idx p0.Race.Times (↑k10:Int)).bind fun x33 =>
  (chk (↑k10:Int) l9.length).bind fun _ =>
  (chk (↑k10:Int) p0.out.length).bind fun _ =>
  if (gd p0.out k10)=true then
   some l9
  else
   if (gd l9 k10) < (↑x33.length:Int) then
    (idx x33 (gd l9 k10)).bind fun x62 =>
    if x62=p1 then
     some (nD l9 k10 (w64 ((gd l9 k10) + 1)))
    else
     some l9
   else
    some l9) p0.done).bind fun y15 =>
 (wBc 0 (↑y15.length:Int) (fun k121 l117 =>
  (chk (↑k121:Int) y15.length).bind fun _ =>
  (chk (↑k121:Int) p0.out.length).bind fun _ =>
  if (gd p0.out k121)=true then
   some l117
  else
   (wBG (⟨p0.Race,y15,p0.out⟩:wAL) (↑k121:Int) (gd y15 k121) p1).bind fun x193 =>
   if 0 <= x193 then
    (app 8 l117 [(↑k121:Int)]).bind fun x222 =>
    some x222
   else
    some l117) []).bind fun y126 =>
 some (y126,(⟨p0.Race,y15,p0.out⟩:wAL))
noncomputable def wAw (p0:List wAH) (p1:((wAH × wAH)->Option Int)):Option (List wAH):=wJr p1 p0
def wCz (p0:Int):Option (Bool) :=
 some (decide (¬ (p0=p0)))
def wAr (p0:Int) (p1:Int):Option (Int) :=
 (wCz p0).bind fun x1 =>
 (wCz p1).bind fun x11 =>
 if x1=true then
  if x11=true then
   some 0
  else
   some (-1)
 else
  if x11=true then
   some 1
  else
   if p0 < p1 then
    some (-1)
   else
    if p1 < p0 then
     some 1
    else
     some 0
def wCq (p0:List Int):Option (Int) :=
 jn (wEs 0 (↑p0.length:Int) (fun k2 _ =>
  (idx p0 (↑k2:Int)).bind fun x22 =>
  if x22=0 then
   some (.inl ())
  else
   esc (some x22)) ()) fun _ =>
 some 0
def wBE (p0:wAH) (p1:wAH):Option (Int) :=
 (wAr p0.Time p1.Time).bind fun x11 =>
 (wAr p0.Bib p1.Bib).bind fun x21 =>
 (wCq [x11,x21]).bind fun x41 =>
 some x41
def wCv (p0:wAP):Option (wAL × (List wAH)) :=
 ((mkz 8 (↑p0.Bibs.length:Int) (0:Int)).bind fun x18 =>
 (mkz 1 (↑p0.Bibs.length:Int) false).bind fun x26 =>
 some (x18,x26)).bind fun (l9,l12) =>
 (wCQ p0).bind fun x523 =>
 (wBA (S:=(List wAH) × Int × (List Int) × (List (List Int)) × (List Int) × (List Bool)) (E:=Empty) (fun (l1084,x1088,l1089,l1092,l1095,l1098) x1127 =>
  (wBH (⟨(⟨x1088,l1089,l1092⟩:wAP),l1095,l1098⟩:wAL) x1127).bind fun (x1153,x1154) =>
  (wBc 0 (↑x1153.length:Int) (fun k1194 l1191 =>
   (chk (↑k1194:Int) x1153.length).bind fun _ =>
   (idx x1154.Race.Bibs (gd x1153 k1194)).bind fun x1225 =>
   (chk (gd x1153 k1194) x1154.done.length).bind fun _ =>
   (wBG x1154 (gd x1153 k1194) (gd x1154.done (gd x1153 k1194).toNat) x1127).bind fun x1267 =>
   (idx x1154.Race.Bibs x1267).bind fun x1289 =>
   (app 32 l1191 [(⟨x1225,(gd x1154.done (gd x1153 k1194).toNat),x1127,x1289⟩:wAH)]).bind fun x1302 =>
   some x1302) l1084).bind fun y1199 =>
  (wBc 0 (↑x1153.length:Int) (fun k1341 l1340 =>
   (chk (↑k1341:Int) x1153.length).bind fun _ =>
   (chk (gd x1153 k1341) l1340.length).bind fun _ =>
   some (nD l1340 (gd x1153 k1341).toNat true)) x1154.out).bind fun y1346 =>
  some (.inl (y1199,x1154.Race.Laps,x1154.Race.Bibs,x1154.Race.Times,x1154.done,y1346))) ([],p0.Laps,p0.Bibs,p0.Times,l9,l12) x523).bind fun rr1121 =>
 match rr1121 with
 | .inl (y1419,y1420,y1421,y1422,y1423,y1424) =>
  (wAw y1419 (fun x=>wBE x.1 x.2)).bind fun x1441 =>
  some ((⟨(⟨y1420,y1421,y1422⟩:wAP),y1423,y1424⟩:wAL),x1441)
 | .inr e1435 =>
  e1435.elim
def wCG (p0:wAP):Option ((List wAH) × Int) :=
 (wCb p0).bind fun x5 =>
 if x5=0 then
  (wCv p0).bind fun (x19,x20) =>
  some (x20,0)
 else
  some ([],x5)
def wDH (p0:wAI):Option ((List wAH) × Int) :=
 (wCo p0).bind fun (x5,x6) =>
 match x5 with
 | none =>
  if x6=0 then
   none
  else
   some ([],x6)
 | some x24 =>
  if x6=0 then
   (wBM x24).bind fun x46 =>
   (wCG x46).bind fun (x76,x77) =>
   some (x76,x77)
  else
   some ([],x6)
def wDA (p0:wAP):Option ((List Int) × Int) :=
 (wCb p0).bind fun x5 =>
 if x5=0 then
  (wCv p0).bind fun (x19,x20) =>
  some (x19.done,0)
 else
  some ([],x5)
def wCE (p0:wAD):Option (Int) :=
 (wBc 0 (↑p0.Legs.length:Int) (fun k18 x17 =>
  (idx p0.Legs (↑k18:Int)).bind fun x40 =>
  (wBc 0 (↑x40.Bouts.length:Int) (fun k69 x68 =>
   (idx x40.Bouts (↑k69:Int)).bind fun x94 =>
   (wCn x94).bind fun (x107,x108) =>
   if x107=(⟨0,0,0⟩:wAW) then
    some x68
   else
    some (w64 (x68 + x107.Unused))) x17).bind fun y74 =>
  some y74) 0).bind fun y23 =>
 some y23
noncomputable def wAX (p0:List wAB) (p1:((wAB × wAB)->Option Int)):Option (List wAB):=wJr p1 p0
def wBN (p0:wAB) (p1:wAB):Option (Int) :=
 (wAr p0.Time p1.Time).bind fun x11 =>
 (wAr p0.Bib p1.Bib).bind fun x21 =>
 (wCq [x11,x21]).bind fun x41 =>
 some x41
def wBO (p0:wAB) (p1:wAB) (p2:List (Int × Int)):Option (Int) :=
 (wAr (wEW p2 p1.Bib 0) (wEW p2 p0.Bib 0)).bind fun x11 =>
 (wAr p0.Bib p1.Bib).bind fun x21 =>
 (wCq [x11,x21]).bind fun x41 =>
 some x41
def wAy (p0:wAI):Option ((List wAB) × Int) :=
 (wCo p0).bind fun (x5,x6) =>
 match x5 with
 | none =>
  if x6=0 then
   none
  else
   some ([],x6)
 | some x24 =>
  if x6=0 then
   (wBM x24).bind fun x46 =>
   (wCG x46).bind fun (x83,x84) =>
   (wDA x46).bind fun (x99,x100) =>
   (wBc 0 (↑x83.length:Int) (fun k144 l141 =>
    (chk (↑k144:Int) x83.length).bind fun _ =>
    some (wGS l141 ((gd x83 k144).Bib) true)) ([]:List (Int × Bool))).bind fun y149 =>
   (wBc 0 (↑p0.Teams.length:Int) (fun k258 (l247,l250,l254) =>
    (idx p0.Teams (↑k258:Int)).bind fun x293 =>
    (chk (↑k258:Int) x99.length).bind fun _ =>
    if (wEW y149 x293.Bib false)=true then
     (app 24 l254 [(⟨x293.Bib,0,0⟩:wAB)]).bind fun x346 =>
     some ((wGS l247 x293.Bib (gd x99 k258)),l250,x346)
    else
     (idx x24.after (↑k258:Int)).bind fun x364 =>
     if (↑x364.length:Int) < x46.Laps then
      (app 24 l254 [(⟨x293.Bib,0,0⟩:wAB)]).bind fun x390 =>
      some ((wGS l247 x293.Bib (gd x99 k258)),l250,x390)
     else
      (idx x364 (w64 (x46.Laps - 1))).bind fun x434 =>
      (wCE x293).bind fun x441 =>
      (app 24 l250 [(⟨x293.Bib,0,w64 (x434 + (w64 (x441 * p0.Rules.Unused)))⟩:wAB)]).bind fun x456 =>
      some ((wGS l247 x293.Bib (gd x99 k258)),x456,l254)) (([]:List (Int × Int)),[],[])).bind fun (y263,y264,y265) =>
   (wAX y264 (fun x=>wBN x.1 x.2)).bind fun x508 =>
   (wAX y265 (fun x=>wBO x.1 x.2 y263)).bind fun x532 =>
   (wBc 0 (↑x508.length:Int) (fun k550 l549 =>
    (chk (↑k550:Int) l549.length).bind fun _ =>
    if 0 < (↑k550:Int) then
     (chk (↑k550:Int) (nD l549 k550 (⟨(gd l549 k550).Bib,(↑(k550 + 1):Int),(gd l549 k550).Time⟩:wAB)).length).bind fun _ =>
     (chk (w64 ((↑k550:Int) - 1)) (nD l549 k550 (⟨(gd l549 k550).Bib,(↑(k550 + 1):Int),(gd l549 k550).Time⟩:wAB)).length).bind fun _ =>
     if ((gd (nD l549 k550 (⟨(gd l549 k550).Bib,(↑(k550 + 1):Int),(gd l549 k550).Time⟩:wAB)) k550).Time)=((gd (nD l549 k550 (⟨(gd l549 k550).Bib,(↑(k550 + 1):Int),(gd l549 k550).Time⟩:wAB)) (w64 ((↑k550:Int) - 1)).toNat).Time) then
      some (nD (nD l549 k550 (⟨(gd l549 k550).Bib,(↑(k550 + 1):Int),(gd l549 k550).Time⟩:wAB)) k550 (⟨(gd (nD l549 k550 (⟨(gd l549 k550).Bib,(↑(k550 + 1):Int),(gd l549 k550).Time⟩:wAB)) k550).Bib,(gd (nD l549 k550 (⟨(gd l549 k550).Bib,(↑(k550 + 1):Int),(gd l549 k550).Time⟩:wAB)) (w64 ((↑k550:Int) - 1)).toNat).Place,(gd (nD l549 k550 (⟨(gd l549 k550).Bib,(↑(k550 + 1):Int),(gd l549 k550).Time⟩:wAB)) k550).Time⟩:wAB))
     else
      some (nD l549 k550 (⟨(gd l549 k550).Bib,(↑(k550 + 1):Int),(gd l549 k550).Time⟩:wAB))
    else
     some (nD l549 k550 (⟨(gd l549 k550).Bib,(↑(k550 + 1):Int),(gd l549 k550).Time⟩:wAB))) x508).bind fun y555 =>
   (app 24 y555 x532).bind fun x615 =>
   some (x615,0)
  else
   some ([],x6)
def wBF (p0:List wAH) (p1:List wAH):Option (Bool) :=
 if (↑p0.length:Int)=(↑p1.length:Int) then
  jn (wEs 0 (↑p0.length:Int) (fun k4 _ =>
   (idx p0 (↑k4:Int)).bind fun x26 =>
   (idx p1 (↑k4:Int)).bind fun x34 =>
   if x26=x34 then
    some (.inl ())
   else
    esc (some false)) ()) fun _ =>
  some true
 else
  some false
def wBC (p0:List Int):Option ((List Int)) :=
 (app 8 ([]:List Int) p0).bind fun x4 =>
 some x4
def wBS (p0:wAJ):Option (wAJ) :=
 (wBC p0.Classes).bind fun x9 =>
 some (⟨x9,p0.Each,p0.Laps,p0.Spare,p0.Loop,p0.Unused⟩:wAJ)
def wBg (p0:List Bool):Option ((List Bool)) :=
 (app 1 ([]:List Bool) p0).bind fun x4 =>
 some x4
def wBP (p0:List (List Bool)):Option ((List (List Bool))) :=
 (wBc 0 (↑p0.length:Int) (fun k22 l17 =>
  (idx p0 (↑k22:Int)).bind fun x46 =>
  (wBg x46).bind fun x59 =>
  (app 24 l17 [x59]).bind fun x87 =>
  some x87) []).bind fun y27 =>
 some y27
def wBo (p0:wAI):Option (wAI) :=
 ((wBS p0.Rules).bind fun x22 =>
 some (x22.Classes,x22.Each,x22.Laps,x22.Spare,x22.Loop,x22.Unused)).bind fun (l11,x14,x15,x16,x17,x18) =>
 (wBc 0 (↑p0.Teams.length:Int) (fun k130 l125 =>
  (idx p0.Teams (↑k130:Int)).bind fun x155 =>
  ((wBC x155.Classes).bind fun x187 =>
  some x187).bind fun l181 =>
  (wBc 0 (↑x155.Legs.length:Int) (fun k289 l284 =>
   (idx x155.Legs (↑k289:Int)).bind fun x318 =>
   (wBC x318.Loops).bind fun x344 =>
   (wBP x318.Bouts).bind fun x358 =>
   (app 56 l284 [(⟨x318.Skier,x344,x358⟩:wAA)]).bind fun x401 =>
   some x401) []).bind fun y294 =>
  (app 56 l125 [(⟨x155.Bib,l181,y294⟩:wAD)]).bind fun x476 =>
  some x476) []).bind fun y135 =>
 some (⟨(⟨l11,x14,x15,x16,x17,x18⟩:wAJ),p0.Start,y135⟩:wAI)
def wAg (p0:wAH) (p1:wAD):Option (Bool) :=
 some (decide (p0.Bib=p1.Bib))
def wAv (p0:List wAH) (p1:(wAH->Option Bool)):Option (Int) :=
 jn (wEs 0 (↑p0.length:Int) (fun k2 _ =>
  (idx p0 (↑k2:Int)).bind fun x22 =>
  (p1 x22).bind fun x30 =>
  if x30=true then
   esc (some (↑k2:Int))
  else
   some (.inl ())) ()) fun _ =>
 some (-1)
def wAY (p0:List wAH) (p1:(wAH->Option Bool)):Option (Bool) :=
 (wAv p0 p1).bind fun x1 =>
 some (decide (0 <= x1))
def wAh (p0:wAB) (p1:wAH):Option (Bool) :=
 some (decide (p0.Bib=p1.Bib))
def wAV (p0:List wAB) (p1:(wAB->Option Bool)):Option (Int) :=
 jn (wEs 0 (↑p0.length:Int) (fun k2 _ =>
  (idx p0 (↑k2:Int)).bind fun x22 =>
  (p1 x22).bind fun x30 =>
  if x30=true then
   esc (some (↑k2:Int))
  else
   some (.inl ())) ()) fun _ =>
 some (-1)
def wCT :Option ((List (List Bool))) :=
 some [[true,false,true,true,true,true],[false,false,false,true,true,true,true,true],[true,true,true,true,false,false,false,false],[false,true,true,true,true]]
def wBh :Option (wAI) :=
 (wCT).bind fun x5 =>
 ((cut x5 0 1).bind fun x50 =>
 (cut x5 2 3).bind fun x67 =>
 (cut x5 3 (↑(x5.length):Int)).bind fun x131 =>
 some ([0,1],[(⟨7,[0,1],[(⟨0,[1000,1100],x50⟩:wAA),(⟨1,[900,950],x67⟩:wAA)]⟩:wAD),(⟨3,[1,0],[(⟨1,[1000,1150],[[true,true,true,true,true]]⟩:wAA),(⟨0,[900,1500],x131⟩:wAA)]⟩:wAD)])).bind fun (l20,l23) =>
 some (⟨(⟨l20,1,2,100,250,1200⟩:wAJ),0,l23⟩:wAI)
def wDv (p0:wDY) (p1:Int):Option ((List Int)) :=
 (idx p0.after p1).bind fun x2 =>
 (wBc 0 (↑x2.length:Int) (fun k31 l27 =>
  (idx x2 (↑k31:Int)).bind fun x55 =>
  (rem (↑(k31 + 1):Int) p0.Race.Rules.Laps).bind fun x63 =>
  if x63=0 then
   (app 8 l27 [x55]).bind fun x73 =>
   some x73
  else
   some l27) []).bind fun y36 =>
 some y36
def wFR (p0:wAI):Option ((List (List Int)) × Int) :=
 (wCo p0).bind fun (x5,x6) =>
 match x5 with
 | none =>
  if x6=0 then
   (wBc 0 (↑p0.Teams.length:Int) (fun k29 _ =>
    none) ()).bind fun _ =>
   some ([],0)
  else
   some ([],x6)
 | some x24 =>
  if x6=0 then
   (wBc 0 (↑p0.Teams.length:Int) (fun k100 l95 =>
    (wDv x24 (↑k100:Int)).bind fun x129 =>
    (app 24 l95 [x129]).bind fun x153 =>
    some x153) []).bind fun y105 =>
   some (y105,0)
  else
   some ([],x6)
def wEy (p0:wAI):Option ((List (List Int)) × Int) :=
 (wDc p0).bind fun x5 =>
 if x5=0 then
  (mkz 24 (↑p0.Teams.length:Int) ([]:List Int)).bind fun x17 =>
  (wBc 0 (↑p0.Teams.length:Int) (fun k39 l37 =>
   (idx p0.Teams (↑k39:Int)).bind fun x61 =>
   (wBc 0 (↑x61.Legs.length:Int) (fun k104 (a101,l102) =>
    (idx x61.Legs (↑k104:Int)).bind fun x133 =>
    ((idx x61.Classes x133.Skier).bind fun x162 =>
    (idx p0.Rules.Classes (↑k104:Int)).bind fun x170 =>
    if x162=x170 then
     (chk x133.Skier 8).bind fun _ =>
     some (decide (p0.Rules.Each <= (a101.get x133.Skier.toNat)))
    else
     some true).bind fun b156 =>
    if b156=true then
     (chk (↑k39:Int) l102.length).bind fun _ =>
     (app 8 (gd l102 k39) [(↑k104:Int)]).bind fun x223 =>
     (chk x133.Skier 8).bind fun _ =>
     some ((a101.set x133.Skier.toNat (w64 ((a101.get x133.Skier.toNat) + 1))),(nD l102 k39 x223))
    else
     (chk x133.Skier 8).bind fun _ =>
     some ((a101.set x133.Skier.toNat (w64 ((a101.get x133.Skier.toNat) + 1))),l102)) ((Arr.fill 8 0),l37)).bind fun (y109,y110) =>
   some y110) x17).bind fun y44 =>
  some (y44,0)
 else
  some ([],x5)
def wCh (p0:List Int) (p1:List Int):Option (Bool) :=
 if (↑p0.length:Int)=(↑p1.length:Int) then
  jn (wEs 0 (↑p0.length:Int) (fun k4 _ =>
   (idx p0 (↑k4:Int)).bind fun x26 =>
   (idx p1 (↑k4:Int)).bind fun x34 =>
   if x26=x34 then
    some (.inl ())
   else
    esc (some false)) ()) fun _ =>
  some true
 else
  some false
def wCH (p0:List (List Int)) (p1:List (List Int)):Option (Bool) :=
 if (↑p0.length:Int)=(↑p1.length:Int) then
  jn (wEs 0 (↑p0.length:Int) (fun k4 _ =>
   (idx p0 (↑k4:Int)).bind fun x26 =>
   (idx p1 (↑k4:Int)).bind fun x39 =>
   (wCh x26 x39).bind fun x52 =>
   if x52=true then
    some (.inl ())
   else
    esc (some false)) ()) fun _ =>
  some true
 else
  some false
def wCF (p0:List wAB) (p1:List wAB):Option (Bool) :=
 if (↑p0.length:Int)=(↑p1.length:Int) then
  jn (wEs 0 (↑p0.length:Int) (fun k4 _ =>
   (idx p0 (↑k4:Int)).bind fun x26 =>
   (idx p1 (↑k4:Int)).bind fun x34 =>
   if x26=x34 then
    some (.inl ())
   else
    esc (some false)) ()) fun _ =>
  some true
 else
  some false
def wCU :Option (wBV) :=
 some (⟨[0,1,0],[[2300,9999],[2600,2400],[2250,9999]]⟩:wBV)
def wCV (p0:List Int) (p1:wAJ):Option (Bool) :=
 some (decide ((↑p0.length:Int)=(↑p1.Classes.length:Int)))
def wBy (p0:List Int) (p1:((List Int)->Option Bool)):Option (Bool) :=
 (p1 p0).bind fun x1 =>
 some (!x1)
def wCL (p0:List (List Int)) (p1:((List Int)->Option Bool)):Option (Int) :=
 jn (wEs 0 (↑p0.length:Int) (fun k2 _ =>
  (idx p0 (↑k2:Int)).bind fun x22 =>
  (p1 x22).bind fun x35 =>
  if x35=true then
   esc (some (↑k2:Int))
  else
   some (.inl ())) ()) fun _ =>
 some (-1)
def wBi (p0:List (List Int)) (p1:((List Int)->Option Bool)):Option (Bool) :=
 (wCL p0 p1).bind fun x1 =>
 some (decide (0 <= x1))
def wCw (p0:List (List Int)) (p1:((List Int)->Option Bool)):Option (Bool) :=
 (wBi p0 (fun x=>wBy x p1)).bind fun x13 =>
 some (!x13)
def wBz (p0:Int):Option (Bool) :=
 (wBR p0 0 100000).bind fun x1 =>
 some x1
def wCW (p0:List Int):Option (Bool) :=
 (wBJ p0 wBz).bind fun x2 =>
 some x2
def wCr (p0:wAJ) (p1:wBV):Option (Int) :=
 (wCN p0).bind fun x15 =>
 if x15=0 then
  (wBR (↑p1.Classes.length:Int) 1 8).bind fun x27 =>
  if x27=true then
   if (↑p1.Times.length:Int)=(↑p1.Classes.length:Int) then
    (wCw p1.Times (fun x=>wCV x p0)).bind fun x49 =>
    if x49=true then
     (wCJ p1.Classes).bind fun x65 =>
     if x65=true then
      (wCw p1.Times wCW).bind fun x80 =>
      if x80=true then
       some 0
      else
       some 3
     else
      some 3
    else
     some 2
   else
    some 2
  else
   some 2
 else
  some x15
def wCs (p0:wAl) (p1:Int) (p2:Int):Option (Bool) :=
 (idx p0.Squad.Classes p1).bind fun x7 =>
 (idx p0.rules.Classes p2).bind fun x14 =>
 some (decide (x7=x14))
def wEh (p0:List Int):Option (Int) :=
 (wBc 0 (↑p0.length:Int) (fun k7 x6 =>
  (idx p0 (↑k7:Int)).bind fun x28 =>
  some (w64 (x6 + x28))) 0).bind fun y12 =>
 some y12
def wDg (p0:wAl) (p1:List Int):Option (Int × Bool) :=
 jn (wEs 0 (↑p1.length:Int) (fun k31 (a26,l27) =>
  (idx p1 (↑k31:Int)).bind fun x56 =>
  (chk x56 8).bind fun _ =>
  (wCs p0 x56 (↑k31:Int)).bind fun x76 =>
  if x76=true then
   if p0.rules.Each < ((a26.set x56.toNat (w64 ((a26.get x56.toNat) + 1))).get x56.toNat) then
    esc (some (0,false))
   else
    (idx p0.Squad.Times x56).bind fun x95 =>
    (idx x95 (↑k31:Int)).bind fun x108 =>
    (app 8 l27 [x108]).bind fun x120 =>
    some (.inl ((a26.set x56.toNat (w64 ((a26.get x56.toNat) + 1))),x120))
  else
   esc (some (0,false))) ((Arr.fill 8 0),[])) fun (y140,y141) =>
 (wEh y141).bind fun x160 =>
 some (x160,true)
def wDI (rec_:(List Int)->wAl->(List Int)->Int->Int->Unit->Option ((List Int) × Int)) (p0:List Int) (p1:wAl) (p2:List Int) (p3:Int) (p4:Int) (p5:Unit):Option ((List Int) × Int) :=
 if (↑p0.length:Int)=(↑p1.rules.Classes.length:Int) then
  (wDg p1 p0).bind fun (x6,x7) =>
  if x7=true then
   if p2=[] then
    (wBB p0).bind fun x23 =>
    (wNi x23).bind fun x36 =>
    some (x23,x6)
   else
    if x6 < p3 then
     (wBB p0).bind fun x49 =>
     (wNi x49).bind fun x62 =>
     some (x49,x6)
    else
     some (p2,p3)
  else
   some (p2,p3)
 else
  (wBc 0 (↑p1.Squad.Classes.length:Int) (fun k92 (l88,x91) =>
   if (↑k92:Int)=p4 then
    some (l88,x91)
   else
    (wCs p1 (↑k92:Int) (↑p0.length:Int)).bind fun x129 =>
    if x129=true then
     (wBB p0).bind fun x145 =>
     (app 8 x145 [(↑k92:Int)]).bind fun x163 =>
     (rec_ x163 p1 l88 x91 p4 ()).bind fun (x193,x194) =>
     some (x193,x194)
    else
     some (l88,x91)) (p2,p3)).bind fun (y97,y98) =>
  some (y97,y98)
def wCt:Nat->(List Int)->wAl->(List Int)->Int->Int->Unit->Option ((List Int) × Int)
 | 0=>fun _ _ _ _ _ _=>none
 | n_ + 1=>wDI (wCt n_)
def wCe (p0:wAl) (p1:Int):Option ((List Int) × Int) :=
 (wCt 1000 [] p0 ([]:List Int) 0 p1 ()).bind fun (x57,x58) =>
 some (x57,x58)
def wFl (p0:wAJ) (p1:wBV):Option ((List Int) × Int × Int) :=
 (wCr p0 p1).bind fun x9 =>
 if x9=0 then
  (wCe (⟨p1,p0⟩:wAl) (-1)).bind fun (x24,x25) =>
  if x24=[] then
   some ([],0,6)
  else
   some (x24,x25,0)
 else
  some ([],0,x9)
def wBv (p0:Int):Option (Bool) :=
 (wBR p0 (-1000000) 1000000).bind fun x1 =>
 some x1
def wDL (p0:Int):Option (Bool) :=
 some (decide (0 <= p0))
def wEz (p0:wAJ) (p1:wBV) (p2:List Int) (p3:List Int):Option (Int × Int) :=
 (wCr p0 p1).bind fun x9 =>
 if x9=0 then
  if (↑p2.length:Int)=(↑p0.Classes.length:Int) then
   if (↑p3.length:Int)=(↑p1.Classes.length:Int) then
    (wBJ p2 wBv).bind fun x27 =>
    if x27=true then
     (wBJ p3 wBv).bind fun x42 =>
     if x42=true then
      (wBJ p3 wDL).bind fun x56 =>
      if x56=true then
       jn (wEs 0 (↑p3.length:Int) (fun k82 _ =>
        (idx p3 (↑k82:Int)).bind fun x106 =>
        jn (wEs 0 (↑p2.length:Int) (fun k116 _ =>
         (idx p2 (↑k116:Int)).bind fun x145 =>
         (wCs (⟨p1,p0⟩:wAl) (↑k82:Int) (↑k116:Int)).bind fun x175 =>
         if x175=true then
          (idx p1.Times (↑k82:Int)).bind fun x187 =>
          (idx x187 (↑k116:Int)).bind fun x200 =>
          if x200 < (w64 (x145 - x106)) then
           esc (esc (some (0,8)))
          else
           some (.inl ())
         else
          some (.inl ())) ()) fun _ =>
        some (.inl ())) ()) fun _ =>
       (wEh p2).bind fun x260 =>
       (wEh p3).bind fun x273 =>
       some (w64 (x260 - (w64 (p0.Each * x273))),0)
      else
       some (0,8)
     else
      some (0,3)
    else
     some (0,3)
   else
    some (0,2)
  else
   some (0,2)
 else
  some (0,x9)
def wFm (p0:wAJ) (p1:wBV) (p2:Int):Option (Int × Int) :=
 (wCr p0 p1).bind fun x9 =>
 if x9=0 then
  (wBR p2 0 (w64 ((↑p1.Classes.length:Int) - 1))).bind fun x21 =>
  if x21=true then
   (wCe (⟨p1,p0⟩:wAl) (-1)).bind fun (x46,x47) =>
   (wCe (⟨p1,p0⟩:wAl) p2).bind fun (x64,x65) =>
   if x64=[] then
    some (0,6)
   else
    some (w64 (x65 - x47),0)
  else
   some (0,1)
 else
  some (0,x9)
def wBj (p0:wAO) (p1:(wAO->Option Bool)):Option (Bool) :=
 (p1 p0).bind fun x5 =>
 some (!x5)
def wBT (p0:List wAO) (p1:(wAO->Option Bool)):Option (Int) :=
 jn (wEs 0 (↑p0.length:Int) (fun k2 _ =>
  (idx p0 (↑k2:Int)).bind fun x22 =>
  (p1 x22).bind fun x30 =>
  if x30=true then
   esc (some (↑k2:Int))
  else
   some (.inl ())) ()) fun _ =>
 some (-1)
def wBI (p0:List wAO) (p1:(wAO->Option Bool)):Option (Bool) :=
 (wBT p0 p1).bind fun x1 =>
 some (decide (0 <= x1))
def wDa (p0:List wAO) (p1:(wAO->Option Bool)):Option (Bool) :=
 (wBI p0 (fun x=>wBj x p1)).bind fun x13 =>
 some (!x13)
def wDB (p0:wAO):Option (Bool) :=
 some (decide (p0.Lo <= p0.Hi))
def wEi (p0:List wAO):Option ((List wAO) × Int) :=
 if 40 < (↑p0.length:Int) then
  some ([],2)
 else
  (wDa p0 wDB).bind fun x7 =>
  if x7=true then
   (wBc 0 (↑p0.length:Int) (fun k36 l32 =>
    (idx p0 (↑k36:Int)).bind fun x60 =>
    (wBc 0 (↑p0.length:Int) (fun k93 (x91,x92) =>
     (idx p0 (↑k93:Int)).bind fun x122 =>
     if (↑k93:Int)=(↑k36:Int) then
      some (x91,x92)
     else
      if x122.Hi < x60.Lo then
       if x122.Lo < x60.Hi then
        some (w64 (x91 + 1),w64 (x92 + 1))
       else
        some (w64 (x91 + 1),x92)
      else
       if x122.Lo < x60.Hi then
        some (x91,w64 (x92 + 1))
       else
        some (x91,x92)) (1,1)).bind fun (y98,y99) =>
    (app 16 l32 [(⟨y98,y99⟩:wAO)]).bind fun x193 =>
    some x193) []).bind fun y41 =>
   some (y41,0)
  else
   some ([],3)
def wCf (p0:List wAO) (p1:List wAO):Option (Bool) :=
 if (↑p0.length:Int)=(↑p1.length:Int) then
  jn (wEs 0 (↑p0.length:Int) (fun k4 _ =>
   (idx p0 (↑k4:Int)).bind fun x26 =>
   (idx p1 (↑k4:Int)).bind fun x34 =>
   if x26=x34 then
    some (.inl ())
   else
    esc (some false)) ()) fun _ =>
  some true
 else
  some false
def wBp :Option (Bool) :=
 (wCT).bind fun x1 =>
 (idx x1 0).bind fun x21 =>
 (wCn x21).bind fun (x33,x34) =>
 (wCT).bind fun x51 =>
 (idx x51 3).bind fun x71 =>
 (wCn x71).bind fun (x83,x84) =>
 (wBh).bind fun x101 =>
 (wFR x101).bind fun (x131,x132) =>
 (wBh).bind fun x147 =>
 (wAy x147).bind fun (x177,x178) =>
 (wBh).bind fun x191 =>
 (wEy x191).bind fun (x221,x222) =>
 (if x34=0 then
  if x84=0 then
   if x132=0 then
    if x178=0 then
     if x222=0 then
      if x33=(⟨1,0,0⟩:wAW) then
       if x83=(⟨0,1,3⟩:wAW) then
        (wCH x131 [[2200,4600],[2150,4800]]).bind fun x310 =>
        if x310=true then
         (wCF x177 [(⟨7,1,4600⟩:wAB),(⟨3,2,8400⟩:wAB)]).bind fun x338 =>
         if x338=true then
          (wCH x221 [[],[]]).bind fun x370 =>
          some (!x370)
         else
          some true
        else
         some true
       else
        some true
      else
       some true
     else
      some true
    else
     some true
   else
    some true
  else
   some true
 else
  some true).bind fun b242 =>
 if b242=true then
  some false
 else
  (wBh).bind fun x408 =>
  (wCU).bind fun x435 =>
  (wFl x408.Rules x435).bind fun (x473,x474,x475) =>
  ((wCU).bind fun x493 =>
  (wEz x408.Rules x493 [2250,2400] [0,0,0]).bind fun (x554,x555) =>
  some (x555,x554)).bind fun (x488,x489) =>
  (wCU).bind fun x976 =>
  (wFm x408.Rules x976 2).bind fun (x1011,x1012) =>
  (wEi [(⟨100,200⟩:wAO),(⟨150,300⟩:wAO),(⟨250,260⟩:wAO)]).bind fun (x1032,x1033) =>
  if x475=0 then
   if x488=0 then
    if x1012=0 then
     if x1033=0 then
      (wCh x473 [2,1]).bind fun x1081 =>
      if x1081=true then
       if x474=4650 then
        if x489=4650 then
         if x1011=50 then
          (wCf x1032 [(⟨1,2⟩:wAO),(⟨1,3⟩:wAO),(⟨2,3⟩:wAO)]).bind fun x1115 =>
          some x1115
         else
          some false
        else
         some false
       else
        some false
      else
       some false
     else
      some false
    else
     some false
   else
    some false
  else
   some false
def wBx (p0:List Int) (p1:Int):Option (Bool) :=
 (wDZ p0).bind fun x1 =>
 (wCA x1 8 4).bind fun (x16,x17) =>
 (idx x16.Teams 0).bind fun x57 =>
 (wBc 0 (↑x57.Legs.length:Int) (fun k97 l96 =>
  (idx x57.Legs (↑k97:Int)).bind fun x119 =>
  (wBc 0 (↑((gd l96 k97).length):Int) (fun k159 l158 =>
   (chk (↑k159:Int) (gd l158 k97).length).bind fun _ =>
   (wCZ p1 4000).bind fun x211 =>
   some (nD l158 k97 (nD (gd l158 k97) k159 (min 9000 (w64 ((gd (gd l158 k97) k159) + x211)))))) l96).bind fun y164 =>
  some y164) (kf (fun (x:wAA)=>x.Loops) x57.Legs)).bind fun y102 =>
 (wDs (⟨x16.Rules,x16.Start,(nD x16.Teams 0 (⟨x57.Bib,x57.Classes,(nR (fun (x:wAA) (l:List Int)=>(⟨x.Skier,l,x.Bouts⟩:wAA)) x57.Legs y102)⟩:wAD))⟩:wAI)).bind fun (x290,x291) =>
 (wDH (⟨x16.Rules,x16.Start,(nD x16.Teams 0 (⟨x57.Bib,x57.Classes,(nR (fun (x:wAA) (l:List Int)=>(⟨x.Skier,l,x.Bouts⟩:wAA)) x57.Legs y102)⟩:wAD))⟩:wAI)).bind fun (x318,x319) =>
 (wAy (⟨x16.Rules,x16.Start,(nD x16.Teams 0 (⟨x57.Bib,x57.Classes,(nR (fun (x:wAA) (l:List Int)=>(⟨x.Skier,l,x.Bouts⟩:wAA)) x57.Legs y102)⟩:wAD))⟩:wAI)).bind fun (x334,x335) =>
 if x291=0 then
  if x319=0 then
   if x335=0 then
    (wCG x290).bind fun (x368,x369) =>
    if x369=0 then
     (wBF x318 x368).bind fun x402 =>
     if x402=true then
      (wBo (⟨x16.Rules,x16.Start,(nD x16.Teams 0 (⟨x57.Bib,x57.Classes,(nR (fun (x:wAA) (l:List Int)=>(⟨x.Skier,l,x.Bouts⟩:wAA)) x57.Legs y102)⟩:wAD))⟩:wAI)).bind fun x428 =>
      (wBc 0 (↑((nD x16.Teams 0 (⟨x57.Bib,x57.Classes,(nR (fun (x:wAA) (l:List Int)=>(⟨x.Skier,l,x.Bouts⟩:wAA)) x57.Legs y102)⟩:wAD)).length):Int) (fun k477 l472 =>
       (idx (nD x16.Teams 0 (⟨x57.Bib,x57.Classes,(nR (fun (x:wAA) (l:List Int)=>(⟨x.Skier,l,x.Bouts⟩:wAA)) x57.Legs y102)⟩:wAD)) (↑k477:Int)).bind fun x503 =>
       (wAY x318 (fun x=>wAg x x503)).bind fun x539 =>
       if x539=true then
        some l472
       else
        (app 56 l472 [x503]).bind fun x567 =>
        some x567) []).bind fun y482 =>
      jn (wEs 0 (↑x318.length:Int) (fun k615 _ =>
       (idx x318 (↑k615:Int)).bind fun x636 =>
       (wAV x334 (fun x=>wAh x x636)).bind fun x663 =>
       if x663 < 0 then
        esc (some false)
       else
        (idx x334 x663).bind fun x679 =>
        if x679.Place=0 then
         some (.inl ())
        else
         esc (some false)) ()) fun _ =>
      if (↑y482.length:Int)=0 then
       some false
      else
       (wDH (⟨x428.Rules,x428.Start,y482⟩:wAI)).bind fun (x723,x724) =>
       (wAy (⟨x428.Rules,x428.Start,y482⟩:wAI)).bind fun (x739,x740) =>
       if x724=0 then
        if x740=0 then
         if 0 < (↑x723.length:Int) then
          some false
         else
          jn (wEs 0 (↑x739.length:Int) (fun k762 _ =>
           (chk (↑k762:Int) x739.length).bind fun _ =>
           if 0 < ((gd x739 k762).Place) then
            if (↑x334.length:Int) <= (↑k762:Int) then
             esc (some false)
            else
             (idx x334 (↑k762:Int)).bind fun x804 =>
             if x804=(gd x739 k762) then
              some (.inl ())
             else
              esc (some false)
           else
            some (.inl ())) ()) fun _ =>
          (wBp).bind fun x836 =>
          some x836
        else
         some false
       else
        some false
     else
      some false
    else
     some false
   else
    some false
  else
   some false
 else
  some false
end
end Go.Proofs.YtnbcoenjobdplaaGreat
namespace Go.Proofs.YtnbcoenjobdplaaGreat
open Go.KL
def inB (n lo hi:Int):Bool:=decide (lo <= n/\n <= hi)
theorem wID (n lo hi:Int):wBR n lo hi=some (inB n lo hi):=by
 unfold wBR inB
 by_cases h:lo <= n
 ·rw [if_pos h];simp [h]
 ·rw [if_neg h];simp [h]
def wED:List Bool->Nat->Option Nat
 | [],k=>some k
 | b :: l,k=>if k=5 then none else wED l (k + if b=true then 1 else 0)
theorem wGu:∀ (l:List Bool) (k m:Nat),k <= 5->wED l k=some m->k <= m/\m <= 5
 | [],k,m,hk,h=>by cases h;omega
 | b :: l,k,m,hk,h=>by
  rw [wED] at h
  split at h
  ·cases h
  ·have:=wGu l _ m (by split <;> omega) h
   split at this <;> omega
theorem wIE {l:List Bool} {R:Type} (z:R) (K:Int->Option R):∀ (m k h:Nat),k + m=l.length->h <= 5 ->
  jn (forN (fun k23 (x22:Int)=>(idx l (↑k23:Int)).bind fun x45=>if x22=0 then esc (some z) else if x45=true then some (.inl (w64 (x22 - 1))) else some (.inl x22)) m k (5 - (h:Int))) K =
   (match wED (l.drop k) h with | none=>some z | some m=>K (5 - (m:Int)))
 | 0,k,h,hk,_=>by rw [List.drop_eq_nil_of_le (by omega)];rfl
 | m + 1,k,h,hk,h5=>by
  have hlt:k < l.length:=by omega
  rw [List.drop_eq_getElem_cons hlt,wED,forN,wHk,nk hlt]
  simp only [hM]
  by_cases hz:h=5
  ·rw [if_pos (by omega),if_pos hz];rfl
  ·rw [if_neg (by omega),if_neg hz]
   by_cases hb:l[k]=true
   ·rw [if_pos hb,if_pos hb,wAT (by omega) (by omega)]
    have:=wIE (l:=l) z K m (k + 1) (h + 1) (by omega) (by omega)
    rw [show (5:Int) - ((h + 1:Nat):Int)=5 - (h:Int) - 1 by omega] at this
    exact this
   ·rw [if_neg hb,if_neg hb]
    exact wIE (l:=l) z K m (k + 1) h (by omega) h5
def okB (b:List Bool):Prop:=5 <= b.length/\b.length <= 8/\∃ m,wED b 0=some m
def wGa (b:List Bool):Nat:=(wED b 0).getD 0
theorem wMu (b:List Bool):wGa b <= 5:=by
 unfold wGa
 cases h:wED b 0 with
 | none=>exact Nat.zero_le _
 | some m=>exact (wGu b 0 m (by omega) h).2
theorem wKA {l:List Bool} (h:okB l):wCn l=some (⟨(l.length:Int) - 5,5 - (wGa l:Int),if wGa l < 5 then 8 - (l.length:Int) else 0⟩,0):=by
 obtain ⟨h1,h2,m,hq⟩:=h
 have hn:wGa l=m:=by unfold wGa;rw [hq];rfl
 rw [hn]
 unfold wCn
 have hi:inB l.length 5 8=true:=by unfold inB;simp;omega
 rw [wID,hM,hi,if_pos rfl,wEN (by omega)]
 have:=wIE (l:=l) (R:=wAW × Int) ((⟨0,0,0⟩:wAW),8) (fun y72=>if 0 < y72 then
   some ((⟨w64 ((↑l.length:Int) - 5),y72,w64 (8 - (↑l.length:Int))⟩:wAW),0)
  else
   some ((⟨w64 ((↑l.length:Int) - 5),y72,0⟩:wAW),0)) l.length 0 0 (by omega) (by omega)
 rw [List.drop_zero] at this
 have e:(5:Int) - ((0:Nat):Int)=5:=by omega
 rw [e] at this
 rw [this,hq]
 have:=wGu l 0 m (by omega) hq
 simp only
 rw [wAT (by omega) (by omega),wAT (by omega) (by omega)]
 by_cases hm:m < 5
 ·rw [if_pos (by omega),if_pos hm]
 ·rw [if_neg (by omega),if_neg hm]
end Go.Proofs.YtnbcoenjobdplaaGreat
namespace Go.Proofs.YtnbcoenjobdplaaGreat
open Go.KL
structure wEO (p:wAJ):Prop where
 n:1 <= p.Classes.length/\p.Classes.length <= 4
 cls:∀ c ∈ p.Classes,0 <= c/\c <= 3
 each:1 <= p.Each/\p.Each <= 4
 laps:1 <= p.Laps/\p.Laps <= 5
 spare:0 <= p.Spare/\p.Spare <= 600
 loop:0 <= p.Loop/\p.Loop <= 600
 unused:0 <= p.Unused/\p.Unused <= 6000
structure wFN (p:wAJ) (t:wAD) (l:wAA):Prop where
 le:(l.Loops.length:Int) <= p.Laps
 bouts:l.Bouts.length=l.Loops.length - 1
 loops:∀ n ∈ l.Loops,1 <= n/\n <= 9000
 skier:0 <= l.Skier/\l.Skier < t.Classes.length
 ok:∀ b ∈ l.Bouts,okB b
structure wLG (p:wAJ) (t:wAD):Prop where
 bib:1 <= t.Bib/\t.Bib <= 999
 n:1 <= t.Classes.length/\t.Classes.length <= 8
 cls:∀ c ∈ t.Classes,0 <= c/\c <= 3
 legs:t.Legs.length <= p.Classes.length
 full:∀ k,k + 1 < t.Legs.length->((gd t.Legs k).Loops.length:Int)=p.Laps
 leg:∀ l ∈ t.Legs,wFN p t l
structure wFY (r:wAI):Prop where
 rules:wEO r.Rules
 n:1 <= r.Teams.length/\r.Teams.length <= 12
 start:0 <= r.Start/\r.Start <= 36000
 team:∀ t ∈ r.Teams,wLG r.Rules t
 bibs:(r.Teams.map (·.Bib)).Nodup
theorem wDV {n lo hi:Int} (h1:lo <= n) (h2:n <= hi):inB n lo hi=true:=by unfold inB;simp [h1,h2]
theorem wKB {l:List Int} {f:Int->Option Bool} {p:Int->Bool} (hf:∀ a,f a=some (p a)) (hn:l.length <= 9223372036854775807):wBJ l f=some (l.all p):=by
 unfold wBJ wBW wBw wCM
 have:=wFM (R:=Int) (l:=l) (f:=fun x=>(f x).bind fun x5=>some (!x5)) (p:=fun a=>!p a) (fun a _=>by rw [hf];rfl) hn id
 simp only [id] at this
 rw [this]
 simp only [hM,wFx]
 congr 1
 clear this hn
 induction l with
 | nil=>rfl
 | cons a l ih=>rw [kU,kV,<- ih];cases p a <;> simp
theorem wNr {l:List wAQ} {f:wAQ->Option Bool} {p:wAQ->Bool} (hf:∀ a ∈ l,f a=some (p a)) (hn:l.length <= 9223372036854775807):wBa l f=some (l.all p):=by
 unfold wBa wAk wAn wAx
 have:=wFM (R:=Int) (l:=l) (f:=fun x=>(f x).bind fun x5=>some (!x5)) (p:=fun a=>!p a) (fun a ha=>by rw [hf a ha];rfl) hn id
 simp only [id] at this
 rw [this]
 simp only [hM,wFx]
 congr 1
 clear this hn hf
 induction l with
 | nil=>rfl
 | cons a l ih=>rw [kU,kV,<- ih];cases p a <;> simp
theorem wKf {l:List wAD} {f:wAD->Option Bool} (hf:∀ a ∈ l,f a=some true) (hn:l.length <= 9223372036854775807):wBL l f=some true:=by
 unfold wBL wAm wAq wAz
 have:=wFM (R:=Int) (l:=l) (f:=fun x=>(f x).bind fun x5=>some (!x5)) (p:=fun _=>false) (fun a ha=>by rw [hf a ha];rfl) hn id
 simp only [id] at this
 rw [this]
 simp only [hM,wFx]
 simp
theorem wMw {p:wAJ} (g:wEO p):wCN p=some 0:=by
 unfold wCN
 have h1:=g.n
 have h2:=g.each;have h3:=g.laps;have h4:=g.spare;have h5:=g.loop;have h6:=g.unused
 rw [wID,hM,wDV (by omega) (by omega),if_pos rfl]
 have hc:wCJ p.Classes=some true:=by
  unfold wCJ
  rw [wKB (f:=wBK) (p:=fun n=>inB n 0 3) (fun a=>by unfold wBK;rw [wID];rfl) (by omega),hM]
  exact congrArg some (kM.2 fun c hc=>wDV (g.cls c hc).1 (g.cls c hc).2)
 rw [hc,hM,if_pos rfl]
 unfold wEI
 rw [hM,wNr (p:=fun a=>match a.of p with | some x=>inB x a.lo a.hi | none=>true) (fun a ha=>by
  unfold wBn
  simp only [nS,nO,or_false] at ha
  rcases ha with rfl | rfl | rfl | rfl | rfl <;> simp [wBq,wBr,wBs,wBt,wBu,wID]) (by simp)]
 simp only [hM,kV,List.all_nil,Bool.and_true,wBq,wBr,wBs,wBt,wBu]
 rw [wDV h2.1 h2.2,wDV h3.1 h3.2,wDV h4.1 h4.2,wDV h5.1 h5.2,wDV h6.1 h6.2]
 rfl
theorem wMx {p:wAJ} (gp:wEO p) {t:wAD} (g:wLG p t):wBX p t=some true:=by
 unfold wBX
 have h1:=g.n;have h2:=g.legs;have h3:=gp.n;have h4:=gp.laps
 rw [wID,hM,wDV (by omega) (by omega),if_pos rfl,if_neg (by omega)]
 rw [wEA (by omega) fun k hk=>?_]
 ·rfl
 ·have gl:=g.leg _ (wAe hk)
  have b1:=gl.le;have b2:=gl.bouts
  rw [wAu hk,hM,if_neg (by omega)]
  have hb:((gd t.Legs k).Bouts.length:Int)=max 0 (w64 (((gd t.Legs k).Loops.length:Int) - 1)):=by
   rw [wAT (by omega) (by omega)]
   omega
  rw [wAT (x:=(t.Legs.length:Int) - 1) (by omega) (by omega)]
  by_cases hl:(k:Int) < (t.Legs.length:Int) - 1
  ·rw [if_pos hl,if_neg (by have:=g.full k (by omega);omega),if_pos hb]
  ·rw [if_neg hl,if_pos hb]
theorem wKC {E:Type} {f:Unit->(wAD × wAA)->Option (Unit ⊕ E)} {r:wAI} (hn:r.Teams.length <= 1000) (hl:∀ t ∈ r.Teams,t.Legs.length <= 1000) (h:∀ t ∈ r.Teams,∀ l ∈ t.Legs,f () (t,l)=some (.inl ())):wBY f () r=some (.inl ()):=by
 unfold wBY
 rw [wEA (by omega) fun k hk=>?_]
 ·rfl
 ·have ht:=wAe hk
  rw [wAu hk,hM,wEA (by have:=hl _ ht;omega) fun j hj=>?_]
  ·rfl
  ·rw [wAu hj,hM,h _ ht _ (wAe hj)]
   rfl
theorem wMy {l:List (Int × Bool)} {x:Int} {v:Bool} (h:∀ q ∈ l,q.1 ≠ x):wGS l x v=l ++ [(x,v)]:=by
 induction l with
 | nil=>rfl
 | cons a l ih =>
  obtain ⟨y,u⟩:=a
  have:=h (y,u) (by simp)
  rw [wGS,if_neg (fun e=>this e.symm),ih fun q hq=>h q (by simp [hq])]
  rfl
theorem wLH {l:List Int} (h:l.Nodup) {k:Nat} (hk:k < l.length):∀ a ∈ l.take k,a ≠ gd l k:=by
 intro a ha e
 rw [<- kR k l,wMJ hk,np] at h
 exact h.2.2 a ha _ (kY ..) e
theorem wMz {r:wAI} (g:wFY r):wDc r=some 0:=by
 unfold wDc
 have h1:=g.n;have h2:=g.start
 have hl:∀ t ∈ r.Teams,t.Legs.length <= 1000:=fun t ht=>by have:=(g.team t ht).legs;have:=g.rules.n;omega
 rw [wMw g.rules,hM,if_pos rfl,wID,hM,wDV (by omega) (by omega),if_pos rfl,wKf (fun t ht=>wMx g.rules (g.team t ht)) (by omega),hM,if_pos rfl,
  wID,hM,wDV h2.1 h2.2,if_pos rfl,wKf (fun t ht=>?_) (by omega),hM,if_pos rfl]
 ·unfold wCa
  rw [hM,wKC (by omega) hl fun t ht l hm=>?_,hM]
  ·simp only [hM]
   rw [wKC (by omega) hl fun t ht l hm=>?_,hM]
   ·simp only [hM]
    rw [wKC (by omega) hl fun t ht l hm=>?_,hM]
    ·simp only
     have:=wCu (S:=List (Int × Bool)) (n:=r.Teams.length) (body:=fun k640 l637=>(idx r.Teams (↑k640:Int)).bind fun x664=>some (wGS l637 x664.Bib true)) (fun k=>(r.Teams.take k).map fun t=>(t.Bib,true)) (s0:=[]) rfl (by omega) fun k hk=>by
      rw [wAu hk,hM,wDq hk,nQ,wMy fun q hq=>?_]
      ·rfl
      ·obtain ⟨t,ht,rfl⟩:=nP.1 hq
       have:=wLH g.bibs (k:=k) (by simpa using hk) t.Bib (by rw [<- kW];exact nP.2 ⟨t,ht,rfl⟩)
       rw [wFE _ hk] at this
       exact this
     rw [this,hM,if_neg (by simp)]
    ·have gl:=(g.team t ht).leg l hm
     have hb:=gl.bouts;have hle:=gl.le;have:=g.rules.laps
     simp only
     rw [wEA (by omega) fun k hk=>?_]
     ·rfl
     ·rw [wAu hk,hM,wKA (gl.ok _ (wAe hk))]
      rfl
   ·have gl:=(g.team t ht).leg l hm
    have:=gl.skier;have:=(g.team t ht).n
    simp only
    rw [wID,hM,wAT (by omega) (by omega),wDV (by omega) (by omega),if_pos rfl]
  ·have gl:=(g.team t ht).leg l hm
   have hle:=gl.le;have:=g.rules.laps
   simp only
   rw [wKB (f:=wCd) (p:=fun n=>inB n 1 9000) (fun a=>by unfold wCd;rw [wID];rfl) (by omega),hM,if_pos]
   exact kM.2 fun n hn=>wDV (gl.loops n hn).1 (gl.loops n hn).2
 ·have gt:=g.team t ht
  have:=gt.n
  unfold wCx
  rw [wID,hM,wDV gt.bib.1 gt.bib.2,if_pos rfl]
  unfold wCJ
  rw [wKB (f:=wBK) (p:=fun n=>inB n 0 3) (fun a=>by unfold wBK;rw [wID];rfl) (by omega),hM,hM]
  exact congrArg some (kM.2 fun c hc=>wDV (gt.cls c hc).1 (gt.cls c hc).2)
def bc (p:wAJ) (b:List Bool):Int:=((b.length:Int) - 5) * p.Spare + (5 - (wGa b:Int)) * p.Loop
def tAt (p:wAJ) (l:wAA) (x:Int):Nat->Int
 | 0=>x
 | k + 1=>tAt p l x k + gd l.Loops k + if 0 < k then bc p (gd l.Bouts (k - 1)) else 0
def wNs (p:wAJ) (l:wAA) (x:Int):List Int:=(nZ l.Loops.length).map fun k=>tAt p l x (k + 1)
def wLI (p:wAJ) (l:wAA) (x:Int):Int:=tAt p l x l.Loops.length
def wHN (p:wAJ):List wAA->Int->Int
 | [],x=>x
 | l :: r,x=>wHN p r (wLI p l x)
def wEP (p:wAJ):List wAA->Int->List Int
 | [],_=>[]
 | l :: r,x=>wNs p l x ++ wEP p r (wLI p l x)
theorem wKg {p:wAJ} (g:wEO p) {b:List Bool} (h:okB b):0 <= ((b.length:Int) - 5) * p.Spare/\((b.length:Int) - 5) * p.Spare <= 1800/\0 <= (5 - (wGa b:Int)) * p.Loop/\(5 - (wGa b:Int)) * p.Loop <= 3000:=by
 obtain ⟨h1,h2,_⟩:=h
 have h3:=wMu b
 have a1:=g.spare;have a2:=g.loop
 refine ⟨kD (by omega) a1.1,?_,kD (by omega) a2.1,?_⟩
 ·exact Int.le_trans (kE (show (b.length:Int) - 5 <= 3 by omega) a1.2 a1.1 (by omega)) (by omega)
 ·exact Int.le_trans (kE (show 5 - (wGa b:Int) <= 5 by omega) a2.2 a2.1 (by omega)) (by omega)
theorem wKh {p:wAJ} (gp:wEO p) {t:wAD} {l:wAA} (g:wFN p t l) (x:Int) {k:Nat} (hk:k < l.Loops.length):tAt p l x k + 1 <= tAt p l x (k + 1)/\tAt p l x (k + 1) <= tAt p l x k + 13800:=by
 have h1:=g.loops _ (wAe hk)
 rw [tAt]
 by_cases h:0 < k
 ·have hb:=g.bouts
  have:=wKg gp (g.ok _ (wAe (k:=k - 1) (by omega)))
  rw [if_pos h]
  unfold bc
  omega
 ·rw [if_neg h];omega
theorem wIF {p:wAJ} (gp:wEO p) {t:wAD} {l:wAA} (g:wFN p t l) (x:Int):∀ k,k <= l.Loops.length->x + k <= tAt p l x k/\tAt p l x k <= x + 13800 * k
 | 0,_=>by simp [tAt]
 | k + 1,hk=>by
  have:=wKh gp g x (k:=k) (by omega)
  have:=wIF gp g x k (by omega)
  omega
theorem wIa {p:wAJ} (gp:wEO p) {t:wAD} {l:wAA} (g:wFN p t l) (x:Int):x <= wLI p l x/\wLI p l x <= x + 69000:=by
 have:=wIF gp g x l.Loops.length (kF _)
 have:=g.le;have:=gp.laps
 unfold wLI
 omega
theorem wNt {p:wAJ} (gp:wEO p) {t:wAD} {l:wAA} (g:wFN p t l) {x:Int} (hx:0 <= x/\x <= 1000000) {k:Nat} (hk:k < l.Loops.length) :
  (0 < k->idx l.Bouts (w64 ((k:Int) - 1))=some (gd l.Bouts (k - 1))/\okB (gd l.Bouts (k - 1)) /\
   w64 ((w64 (tAt p l x k + gd l.Loops k)) + (w64 ((w64 ((((gd l.Bouts (k - 1)).length:Int) - 5) * p.Spare)) + (w64 ((5 - (wGa (gd l.Bouts (k - 1)):Int)) * p.Loop)))))=tAt p l x (k + 1)) /\
  (¬ 0 < k->w64 (tAt p l x k + gd l.Loops k)=tAt p l x (k + 1)):=by
 have h1:=g.loops _ (wAe hk)
 have h2:=wIF gp g x k (by omega)
 have h3:=g.le;have h4:=gp.laps;have hb:=g.bouts
 refine ⟨fun h=>?_,fun h=>?_⟩
 ·have ho:=g.ok _ (wAe (k:=k - 1) (by omega))
  have:=wKg gp ho
  refine ⟨?_,ho,?_⟩
  ·rw [wAT (by omega) (by omega),show (k:Int) - 1=((k - 1:Nat):Int) by omega]
   exact wAu (by omega)
  ·rw [tAt,if_pos h]
   unfold bc
   rw [wAT (x:=tAt p l x k + gd l.Loops k) (by omega) (by omega),wAT (x:=(((gd l.Bouts (k - 1)).length:Int) - 5) * p.Spare) (by omega) (by omega),wAT (x:=(5 - (wGa (gd l.Bouts (k - 1)):Int)) * p.Loop) (by omega) (by omega),wAT (x:=(((gd l.Bouts (k - 1)).length:Int) - 5) * p.Spare + (5 - (wGa (gd l.Bouts (k - 1)):Int)) * p.Loop) (by omega) (by omega),wAT (by omega) (by omega)]
 ·rw [tAt,if_neg h,wAT (by omega) (by omega),Int.add_zero]
theorem wJQ (p:wAJ) (l:wAA) (x:Int) (k:Nat):(nZ (k + 1)).map (fun i=>tAt p l x (i + 1))=(nZ k).map (fun i=>tAt p l x (i + 1)) ++ [tAt p l x (k + 1)]:=by
 rw [List.range_succ,nQ]
 rfl
theorem wHO (p:wAJ) (a:wAA):∀ (l:List wAA) (x:Int),wEP p (l ++ [a]) x=wEP p l x ++ wNs p a (wHN p l x)/\wHN p (l ++ [a]) x=wLI p a (wHN p l x)
 | [],x=>by simp [wEP,wHN]
 | b :: l,x=>by
  have:=wHO p a l (wLI p b x)
  exact ⟨by rw [nu,wEP,wEP,this.1,nr];rfl,this.2⟩
theorem wIG {p:wAJ} (gp:wEO p) {t:wAD}:∀ (l:List wAA) (x:Int),(∀ a ∈ l,wFN p t a)->x <= wHN p l x/\wHN p l x <= x + 69000 * (l.length:Int)
 | [],x,_=>by simp [wHN]
 | a :: l,x,h=>by
  have h1:=wIa gp (h a (by simp)) x
  have h2:=wIG gp l (wLI p a x) fun b hb=>h b (by simp [hb])
  rw [wHN]
  simp only [nI]
  omega
def after (r:wAI):List (List Int):=r.Teams.map fun t=>wEP r.Rules t.Legs r.Start
theorem wGv {p:wAJ} (gp:wEO p) {t:wAD}:∀ (l:List wAA) (x:Int),(∀ a ∈ l,wFN p t a)->(wEP p l x).length <= 5 * l.length
 | [],x,_=>by simp [wEP]
 | a :: l,x,h=>by
  have h1:=(h a (by simp)).le
  have h2:=wGv gp l (wLI p a x) fun b hb=>h b (by simp [hb])
  have:=gp.laps
  rw [wEP,nL]
  simp only [wNs,nH,kb,nI]
  omega
theorem wIq {r:wAI} (g:wFY r):wCo r=some (some ⟨r,after r⟩,0):=by
 unfold wCo
 rw [wMz g,hM,if_pos rfl]
 have hn:=g.n;have hs:=g.start
 rw [wCu (S:=List (List Int)) (n:=r.Teams.length) (fun k=>(r.Teams.take k).map fun t=>wEP r.Rules t.Legs r.Start) (s0:=[]) rfl (by omega) fun k hk=>?_]
 ·rw [hM,nE]
  rfl
 ·have gt:=g.team _ (wAe hk)
  have hleg:=gt.legs;have hc:=g.rules.n
  rw [wAu hk,hM]
  rw [wCu (S:=Int × List Int) (n:=(gd r.Teams k).Legs.length) (fun j=>(wHN r.Rules ((gd r.Teams k).Legs.take j) r.Start,wEP r.Rules ((gd r.Teams k).Legs.take j) r.Start)) (s0:=(r.Start,[])) rfl (by omega) fun j hj=>?_]
  ·simp only [hM,nE]
   have hlen:=wGv g.rules (gd r.Teams k).Legs r.Start gt.leg
   rw [wDG (by simp;omega),hM,wDq hk,nQ]
   rfl
  ·have gl:=gt.leg _ (wAe hj)
   have hE:=wIG g.rules ((gd r.Teams k).Legs.take j) r.Start fun a ha=>gt.leg a (ni ha)
   have hL:=wGv g.rules ((gd r.Teams k).Legs.take j) r.Start fun a ha=>gt.leg a (ni ha)
   rw [nY] at hE hL
   have hx:0 <= wHN r.Rules ((gd r.Teams k).Legs.take j) r.Start/\wHN r.Rules ((gd r.Teams k).Legs.take j) r.Start <= 1000000:=by omega
   generalize hX:wHN r.Rules ((gd r.Teams k).Legs.take j) r.Start=X at hx
   generalize hY:wEP r.Rules ((gd r.Teams k).Legs.take j) r.Start=Y at hL
   have hlap:=g.rules.laps;have hle:=gl.le
   simp only
   rw [wAu hj,hM]
   rw [wCu (S:=Int × List Int) (n:=(gd (gd r.Teams k).Legs j).Loops.length) (fun i=>(tAt r.Rules (gd (gd r.Teams k).Legs j) X i,Y ++ (nZ i).map fun q=>tAt r.Rules (gd (gd r.Teams k).Legs j) X (q + 1))) (s0:=(X,Y)) (by simp [tAt]) (by omega) fun i hi=>?_]
   ·simp only [hM]
    rw [wDq hj,(wHO _ _ _ _).1,(wHO _ _ _ _).2,hX,hY]
    rfl
   ·obtain ⟨l1,l2⟩:=wNt g.rules gl hx hi
    simp only
    rw [wAu hi,hM]
    by_cases h0:0 < i
    ·obtain ⟨e1,e2,e3⟩:=l1 h0
     rw [if_pos (by omega),e1,hM,wKA e2]
     simp only [hM]
     rw [e3,wDG (by simp;omega),hM,wJQ,nr]
    ·rw [if_neg (by omega),l2 h0,wDG (by simp;omega),hM,wJQ,nr]
def wDN (r:wAI):wAP:=⟨(r.Rules.Classes.length:Int) * r.Rules.Laps,r.Teams.map (·.Bib),after r⟩
theorem wMK {r:wAI} (g:wFY r):wBM ⟨r,after r⟩=some (wDN r):=by
 unfold wBM
 have hn:=g.n
 simp only
 rw [wCu (S:=List Int × List (List Int)) (n:=r.Teams.length) (fun k=>((r.Teams.take k).map (·.Bib),(r.Teams.take k).map fun t=>wEP r.Rules t.Legs r.Start)) (s0:=([],[])) rfl (by omega) fun k hk=>?_]
 ·simp only [hM,nE]
  have h1:=g.rules.n;have h2:=g.rules.laps
  have h3:0 <= (r.Rules.Classes.length:Int) * r.Rules.Laps:=kD (by omega) (by omega)
  have h4:(r.Rules.Classes.length:Int) * r.Rules.Laps <= 4 * 5:=kE (by omega) h2.2 (by omega) (by omega)
  rw [wAT (by omega) (by omega)]
  rfl
 ·have gt:=g.team _ (wAe hk)
  have hlen:=wGv g.rules (gd r.Teams k).Legs r.Start gt.leg
  have hc:=g.rules.n;have hleg:=gt.legs
  simp only
  rw [wAu hk,hM,wDG (by simp;omega),hM]
  unfold after
  rw [wAu (by simpa using hk),hM,wFE _ hk]
  unfold wBB
  rw [wDG (by simp;omega)]
  simp only [hM,List.nil_append]
  rw [wDG (by simp;omega),hM,wDq hk,nQ,nQ]
  rfl
end Go.Proofs.YtnbcoenjobdplaaGreat
namespace Go.Proofs.YtnbcoenjobdplaaGreat
open Go.KL
theorem wHh {p:wAJ} (gp:wEO p) {t:wAD} {l:wAA} (g:wFN p t l) (x:Int) {i:Nat}:∀ (j:Nat),i < j->j <= l.Loops.length->tAt p l x i < tAt p l x j
 | 0,h,_=>by omega
 | j + 1,h,hj=>by
  have h1:=wKh gp g x (k:=j) (by omega)
  rcases nl i j with hi | hi
  ·have:=wHh gp g x j hi (by omega)
   omega
  ·have:i=j:=by omega
   subst this
   omega
theorem wNu {p:wAJ} (gp:wEO p) {t:wAD} {l:wAA} (g:wFN p t l) (x:Int):(wNs p l x).Pairwise (· < ·)/\∀ a ∈ wNs p l x,x < a/\a <= wLI p l x:=by
 unfold wNs
 refine ⟨?_,fun a ha=>?_⟩
 ·rw [kK]
  refine List.Pairwise.imp_of_mem ?_ List.pairwise_lt_range
  intro i j hi hj hij
  exact wHh gp g x _ (by omega) (by have:=List.mem_range.1 hj;omega)
 ·obtain ⟨i,hi,rfl⟩:=nP.1 ha
  have hi:=List.mem_range.1 hi
  have:=wHh gp g x (i:=0) (i + 1) (by omega) (by omega)
  refine ⟨this,?_⟩
  unfold wLI
  rcases nl (i + 1) l.Loops.length with h | h
  ·have:=wHh gp g x (i:=i + 1) l.Loops.length h (kF _)
   omega
  ·have:i + 1=l.Loops.length:=by omega
   rw [this]
   exact nN _
theorem wIr {p:wAJ} (gp:wEO p) {t:wAD}:∀ (l:List wAA) (x:Int),(∀ a ∈ l,wFN p t a)->(wEP p l x).Pairwise (· < ·)/\∀ a ∈ wEP p l x,x < a/\a <= x + 69000 * (l.length:Int)
 | [],x,_=>by simp [wEP]
 | b :: l,x,h=>by
  obtain ⟨h1,h2⟩:=wNu gp (h b (by simp)) x
  obtain ⟨h3,h4⟩:=wIr gp l (wLI p b x) fun c hc=>h c (by simp [hc])
  have h5:=wIa gp (h b (by simp)) x
  rw [wEP]
  refine ⟨nw.2 ⟨h1,h3,fun a ha c hc=>?_⟩,fun a ha=>?_⟩
  ·have:=(h2 a ha).2
   have:=(h4 c hc).1
   omega
  ·simp only [nI]
   rcases nJ.1 ha with ha | ha
   ·have:=h2 a ha
    omega
   ·have:=h4 a ha
    omega
theorem wIb {p:wAJ} {L:Nat} (hL:p.Laps=L) {t:wAD}:∀ (l:List wAA) (x:Int),(∀ a ∈ l,wFN p t a)->(wEP p l x).length <= l.length * L
 | [],x,_=>by simp [wEP]
 | a :: l,x,h=>by
  have h1:=(h a (by simp)).le
  have h2:=wIb hL l (wLI p a x) fun b hb=>h b (by simp [hb])
  rw [wEP,nL,nI,Nat.add_mul]
  simp only [wNs,nH,kb]
  omega
end Go.Proofs.YtnbcoenjobdplaaGreat
namespace Go.Proofs.YtnbcoenjobdplaaGreat
open Go.KL
def cn (l:List Int) (t:Int):Nat:=l.countP fun x=>decide (x <= t)
theorem wLK (l:List Int) (t:Int):cn l t <= l.length:=List.countP_le_length
theorem wNv (l:List Int) {s t:Int} (h:s <= t):cn l s <= cn l t:=List.countP_mono_left fun x _ hx=>by simp at hx ⊢;omega
theorem wML:∀ {l:List Int} {t:Int} {k:Nat},l.Pairwise (· < ·)->k < l.length->(k < cn l t ↔ gd l k <= t)
 | [],t,k,_,hk=>by simp at hk
 | a :: l,t,0,h,_=>by
  show 0 < cn (a :: l) t ↔ a <= t
  unfold cn
  rw [List.countP_cons]
  by_cases c:a <= t
  ·simp [c]
  ·simp only [c,decide_false,kG,if_false,Nat.add_zero,iff_false]
   have:l.countP (fun x=>decide (x <= t))=0:=nz.2 fun x hx=>by
    have:=(kH.1 h).1 x hx
    simp;omega
   omega
 | a :: l,t,k + 1,h,hk=>by
  show k + 1 < cn (a :: l) t ↔ gd l k <= t
  have hk':k < l.length:=by simpa using hk
  have ih:=wML (t:=t) (kH.1 h).2 hk'
  rw [<- ih]
  unfold cn
  rw [List.countP_cons]
  by_cases c:a <= t
  ·simp [c]
  ·have h1:l.countP (fun x=>decide (x <= t))=0:=nz.2 fun x hx=>by
    have:=(kH.1 h).1 x hx
    simp;omega
   simp [c,h1]
theorem wOv {l:List Int} (h:l.Pairwise (· < ·)) {k:Nat} (hk:k < l.length):cn l (gd l k)=k + 1:=by
 have h1:=(wML (t:=gd l k) h hk).2 (nN _)
 have h2:=wLK l (gd l k)
 by_cases e:k + 1=l.length
 ·omega
 ·have h3:=mt (wML (t:=gd l k) (k:=k + 1) h (by omega)).1
  have h4:gd l k < gd l (k + 1):=by
   have:=nA.1 h k (k + 1) hk (by omega) (by omega)
   rwa [<- wCk hk,<- wCk (by omega)] at this
  have:=h3 (by omega)
  omega
theorem wOw {l:List Int} (h:l.Pairwise (· < ·)) {t:Int} (ht:t ∈ l):0 < cn l t/\cn l t <= l.length/\gd l (cn l t - 1)=t:=by
 obtain ⟨k,hk,e⟩:=nB ht
 have e':gd l k=t:=by rw [wCk hk,e]
 have:=wOv h hk
 rw [e'] at this
 refine ⟨by omega,wLK _ _,?_⟩
 rw [this];exact e'
theorem wNw {l:List Int} (h:l.Pairwise (· < ·)) {s t:Int} (hst:s < t) (hno:∀ x ∈ l,s < x->t <= x) :
  cn l t=if cn l s < l.length/\gd l (cn l s)=t then cn l s + 1 else cn l s:=by
 have h0:=wLK l s
 have hm:=wNv l (show s <= t by omega)
 by_cases hl:cn l s < l.length
 ·have h1:s < gd l (cn l s):=by
   have:=mt (wML (t:=s) h hl).2 (by omega)
   omega
  have h2:=hno _ (wAe hl) h1
  by_cases e:gd l (cn l s)=t
  ·rw [if_pos ⟨hl,e⟩]
   have:=wOv h hl
   rw [e] at this
   exact this
  ·rw [if_neg (fun c=>e c.2)]
   have:=mt (wML (t:=t) h hl).1 (by omega)
   omega
 ·rw [if_neg (fun c=>hl c.1)]
  have:=wLK l t
  omega
def Lp (p:wAL) (d time:Int) (j:Nat):Prop:=j < p.done.length/\gd p.out j=false/\d + 2 <= gd p.done j/\gd (gd p.Race.Times j) ((gd p.done j) - 1).toNat=time
structure wJR (p:wAL):Prop where
 n:p.done.length <= 60
 o:p.out.length=p.done.length
 b:p.Race.Bibs.length=p.done.length
 t:p.Race.Times.length=p.done.length
 d0:∀ i,i < p.done.length->0 <= gd p.done i/\gd p.done i <= (gd p.Race.Times i).length
 len:∀ l ∈ p.Race.Times,l.length <= 1000
def ByP (p:wAL) (d time:Int) (n:Nat) (x:Int):Prop :=
 (x=-1/\∀ j,j < n->¬ Lp p d time j) \/ ∃ j:Nat,x=j/\j < n/\Lp p d time j/\∀ i,i < n->Lp p d time i->gd p.Race.Bibs j <= gd p.Race.Bibs i
theorem wDe {S:Type} {body:Nat->S->Option S} {n:Nat} {s0:S} (I:Nat->S->Prop) (hn:n <= 1000) (h0:I 0 s0) (h:∀ i s,i < n->I i s->∃ s',body i s=some s'/\I (i + 1) s'):∃ s,wBc 0 (n:Int) body s0=some s/\I n s:=by
 rw [wGD (by omega)]
 have:=wGt (body:=body) I n 0 s0 h0 fun i s _ h2 h3=>h i s (by omega) h3
 rwa [kZ] at this
theorem wOx {p:wAL} (G:wJR p) (i d time:Int) (hd0:0 <= d) (hd1:d <= 1000):∃ x,wBG p i d time=some x/\ByP p d time p.done.length x:=by
 unfold wBG
 have hn:=G.n
 obtain ⟨x,e,hx⟩:=wDe (body:=fun (k10:Nat) (x9:Int) =>
  ((idx p.done (↑k10:Int)).bind fun x35 =>
  (idx p.out (↑k10:Int)).bind fun x46 =>
  if x46=true then
   some x9
  else
   if (w64 (d + 2)) <= x35 then
    (idx p.Race.Times (↑k10:Int)).bind fun x60 =>
    (idx x60 (w64 (x35 - 1))).bind fun x73 =>
    if x73=time then
     if x9 < 0 then
      some (↑k10:Int)
     else
      (idx p.Race.Bibs (↑k10:Int)).bind fun x92 =>
      (idx p.Race.Bibs x9).bind fun x100 =>
      if x92 < x100 then
       some (↑k10:Int)
      else
       some x9
    else
     some x9
   else
    some x9).bind fun x34 =>
  some x34) (n:=p.done.length) (s0:=(-1:Int)) (fun k x=>ByP p d time k x) (by omega) (.inl ⟨rfl,fun j hj=>by omega⟩) (fun k x hk hx=>by
   have hd:=G.d0 k hk
   have ho:=G.o
   have hb:=G.b
   have ht:=G.t
   have hll:=G.len _ (wAe (l:=p.Race.Times) (k:=k) (by omega))
   simp only [wNq]
   rw [wAu hk,hM,wAu (by omega),hM,wAT (by omega) (by omega)]
   have skip:¬ Lp p d time k->ByP p d time (k + 1) x:=fun hno=>by
    rcases hx with ⟨h1,h2⟩ | ⟨j,h1,h2,h3,h4⟩
    ·exact .inl ⟨h1,fun j hj=>by
      by_cases e:j=k
      ·exact e ▸ hno
      ·exact h2 j (by omega)⟩
    ·exact .inr ⟨j,h1,by omega,h3,fun i hi hL=>by
      by_cases e:i=k
      ·exact absurd (e ▸ hL) hno
      ·exact h4 i (by omega) hL⟩
   by_cases c1:gd p.out k=true
   ·rw [if_pos c1]
    exact ⟨x,rfl,skip fun h=>by have:=h.2.1;rw [c1] at this;exact nv this⟩
   rw [if_neg c1]
   by_cases c2:d + 2 <= gd p.done k
   ·have e1:(gd p.done k) - 1=((((gd p.done k) - 1).toNat:Nat):Int):=by omega
    rw [if_pos c2,wAu (by omega),hM,wAT (by omega) (by omega),e1,wAu (by omega),hM]
    by_cases c3:gd (gd p.Race.Times k) ((gd p.done k) - 1).toNat=time
    ·have hL:Lp p d time k:=⟨hk,by simpa using c1,c2,c3⟩
     rw [if_pos c3]
     rcases hx with ⟨h1,h2⟩ | ⟨j,h1,h2,h3,h4⟩
     ·rw [if_pos (by omega)]
      exact ⟨_,rfl,.inr ⟨k,rfl,by omega,hL,fun i hi hL'=>by
       by_cases e:i=k
       ·subst e;exact nN _
       ·exact absurd hL' (h2 i (by omega))⟩⟩
     ·subst h1
      rw [if_neg (by omega),wAu (by omega),hM,wAu (by omega),hM]
      by_cases c4:gd p.Race.Bibs k < gd p.Race.Bibs j
      ·rw [if_pos c4]
       exact ⟨_,rfl,.inr ⟨k,rfl,by omega,hL,fun i hi hL'=>by
        by_cases e:i=k
        ·subst e;exact nN _
        ·have:=h4 i (by omega) hL'
         omega⟩⟩
      ·rw [if_neg c4]
       exact ⟨_,rfl,.inr ⟨j,rfl,by omega,h3,fun i hi hL'=>by
        by_cases e:i=k
        ·subst e;omega
        ·exact h4 i (by omega) hL'⟩⟩
    ·rw [if_neg c3]
     exact ⟨x,rfl,skip fun h=>c3 h.2.2.2⟩
   ·rw [if_neg c2]
    exact ⟨x,rfl,skip fun h=>c2 h.2.2.1⟩)
 rw [e,hM]
 exact ⟨x,rfl,hx⟩
end Go.Proofs.YtnbcoenjobdplaaGreat
namespace Go.Proofs.YtnbcoenjobdplaaGreat
open Go.KL
def nx (p:wAL) (t:Int) (i:Nat):Int:=if gd p.out i=false/\gd p.done i < (gd p.Race.Times i).length/\gd (gd p.Race.Times i) (gd p.done i).toNat=t then gd p.done i + 1 else gd p.done i
def st1 (p0:wAL) (p1:Int):Nat->List Int->Option (List Int):=fun k10 l9 =>
  (idx p0.Race.Times (↑k10:Int)).bind fun x33 =>
  (chk (↑k10:Int) l9.length).bind fun _ =>
  (chk (↑k10:Int) p0.out.length).bind fun _ =>
  if (gd p0.out k10)=true then
   some l9
  else
   if (gd l9 k10) < (↑x33.length:Int) then
    (idx x33 (gd l9 k10)).bind fun x62 =>
    if x62=p1 then
     some (nD l9 k10 (w64 ((gd l9 k10) + 1)))
    else
     some l9
   else
    some l9
def st2 (p0:wAL) (p1:Int) (y15:List Int):Nat->List Int->Option (List Int):=fun k121 l117 =>
  (chk (↑k121:Int) y15.length).bind fun _ =>
  (chk (↑k121:Int) p0.out.length).bind fun _ =>
  if (gd p0.out k121)=true then
   some l117
  else
   (wBG (⟨p0.Race,y15,p0.out⟩:wAL) (↑k121:Int) (gd y15 k121) p1).bind fun x193 =>
   if 0 <= x193 then
    (app 8 l117 [(↑k121:Int)]).bind fun x222 =>
    some x222
   else
    some l117
theorem wKD (p0:wAL) (p1:Int):wBH p0 p1=(wBc 0 (↑p0.Race.Times.length:Int) (st1 p0 p1) p0.done).bind fun y =>
 (wBc 0 (↑y.length:Int) (st2 p0 p1 y) []).bind fun z=>some (z,(⟨p0.Race,y,p0.out⟩:wAL)):=rfl
theorem wOy {p:wAL} (G:wJR p) (t:Int):∃ y,wBc 0 (↑p.Race.Times.length:Int) (st1 p t) p.done=some y/\y.length=p.done.length/\∀ i,i < p.done.length->gd y i=nx p t i:=by
 have hn:=G.n
 have ho:=G.o
 have ht:=G.t
 obtain ⟨y,e,h1,h2⟩:=wDe (body:=st1 p t) (n:=p.Race.Times.length) (s0:=p.done) (fun k y=>y.length=p.done.length/\∀ i,i < p.done.length->gd y i=if i < k then nx p t i else gd p.done i) (by omega) ⟨rfl,fun i _=>by rw [if_neg (by omega)]⟩ (fun k y hk ⟨h1,h2⟩=>by
  have hk':k < p.done.length:=by omega
  have hd:=G.d0 k hk'
  have hll:=G.len _ (wAe (l:=p.Race.Times) (k:=k) hk)
  have hyk:gd y k=gd p.done k:=by rw [h2 k hk',if_neg (by omega)]
  have keep:nx p t k=gd p.done k->∀ i,i < p.done.length->gd y i=if i < k + 1 then nx p t i else gd p.done i:=fun e i hi=>by
   rw [h2 i hi]
   by_cases c:i=k
   ·subst c
    rw [if_neg (by omega),if_pos (by omega),e]
   ·by_cases c2:i < k
    ·rw [if_pos c2,if_pos (by omega)]
    ·rw [if_neg c2,if_neg (by omega)]
  unfold st1
  rw [wAu hk,hM,wEe (by omega) (by omega),hM,wEe (by omega) (by omega),hM,hyk]
  by_cases c1:gd p.out k=true
  ·rw [if_pos c1]
   exact ⟨y,rfl,h1,keep (if_neg (fun h=>by rw [c1] at h;exact nv h.1))⟩
  have c1':gd p.out k=false:=by simpa using c1
  rw [if_neg c1]
  by_cases c2:gd p.done k < ((gd p.Race.Times k).length:Int)
  ·have e1:idx (gd p.Race.Times k) (gd p.done k)=some (gd (gd p.Race.Times k) (gd p.done k).toNat):=by
    unfold idx
    rw [if_pos hd.1,wCX (by omega)]
   rw [if_pos c2,e1,hM]
   by_cases c3:gd (gd p.Race.Times k) (gd p.done k).toNat=t
   ·have en:nx p t k=gd p.done k + 1:=if_pos ⟨c1',c2,c3⟩
    rw [if_pos c3,wAT (by omega) (by omega)]
    refine ⟨_,rfl,by simpa using h1,fun i hi=>?_⟩
    rw [wKi (by omega) (by omega)]
    by_cases c:i=k
    ·subst c
     rw [if_pos rfl,if_pos (by omega),en]
    ·rw [if_neg c,h2 i hi]
     by_cases c4:i < k
     ·rw [if_pos c4,if_pos (by omega)]
     ·rw [if_neg c4,if_neg (by omega)]
   ·rw [if_neg c3]
    exact ⟨y,rfl,h1,keep (if_neg (fun h=>c3 h.2.2))⟩
  ·rw [if_neg c2]
   exact ⟨y,rfl,h1,keep (if_neg (fun h=>c2 h.2.1))⟩)
 exact ⟨y,e,h1,fun i hi=>by rw [h2 i hi,if_pos (by omega)]⟩
theorem nx_le {p:wAL} (G:wJR p) (t:Int) {i:Nat} (hi:i < p.done.length):0 <= nx p t i/\nx p t i <= (gd p.Race.Times i).length:=by
 have:=G.d0 i hi
 unfold nx
 split <;> omega
theorem wNx {p:wAL} (G:wJR p) (t:Int):∃ z y,wBH p t=some (z,(⟨p.Race,y,p.out⟩:wAL))/\y.length=p.done.length/\(∀ i,i < p.done.length->gd y i=nx p t i)/\wJR (⟨p.Race,y,p.out⟩:wAL) /\
  z.Pairwise (· < ·)/\∀ x,x ∈ z ↔ ∃ i:Nat,x=i/\i < p.done.length/\gd p.out i=false/\∃ j,Lp (⟨p.Race,y,p.out⟩:wAL) (gd y i) t j:=by
 rw [wKD]
 have hn:=G.n
 obtain ⟨y,e,h1,h2⟩:=wOy G t
 rw [e,hM]
 have G':wJR (⟨p.Race,y,p.out⟩:wAL):=⟨by show y.length <= 60;omega,by show p.out.length=y.length;rw [h1];exact G.o,by show p.Race.Bibs.length=y.length;rw [h1];exact G.b,by show p.Race.Times.length=y.length;rw [h1];exact G.t,fun i hi=>by
  have hi':i < p.done.length:=by rw [<- h1];exact hi
  show 0 <= gd y i/\gd y i <= _
  rw [h2 i hi']
  exact nx_le G t hi',G.len⟩
 obtain ⟨z,ez,z1,z2⟩:=wDe (body:=st2 p t y) (n:=y.length) (s0:=[]) (fun k z=>z.Pairwise (· < ·)/\∀ x,x ∈ z ↔ ∃ i:Nat,x=i/\i < k/\gd p.out i=false/\∃ j,Lp (⟨p.Race,y,p.out⟩:wAL) (gd y i) t j) (by omega) ⟨List.Pairwise.nil,fun x=>by simp⟩ (fun k z hk ⟨z1,z2⟩=>by
  have hk':k < p.done.length:=by omega
  have ho:=G.o
  have hyk:=G'.d0 k hk
  have hll:=G.len _ (wAe (l:=p.Race.Times) (k:=k) (by have:=G.t;omega))
  have hzl:z.length <= k:=by
   have hsub:∀ x ∈ z,0 <= x/\x < k:=fun x hx=>by
    obtain ⟨i,rfl,hi,_⟩:=(z2 x).1 hx
    omega
   rcases nl k z.length with c | c
   ·exfalso
    have key:∀ (m:Nat),m < z.length->(m:Int) <= gd z m:=by
     intro m
     induction m with
     | zero=>intro hm;exact (hsub _ (wAe hm)).1
     | succ m ih =>
      intro hm
      have h3:=ih (by omega)
      have h4:=nA.1 z1 m (m + 1) (by omega) hm (by omega)
      rw [<- wCk (by omega),<- wCk hm] at h4
      omega
    have h5:=key k c
    have h6:=(hsub _ (wAe c)).2
    omega
   ·exact c
  have skip:¬ (gd p.out k=false/\∃ j,Lp (⟨p.Race,y,p.out⟩:wAL) (gd y k) t j)->∀ x,x ∈ z ↔ ∃ i:Nat,x=i/\i < k + 1/\gd p.out i=false/\∃ j,Lp (⟨p.Race,y,p.out⟩:wAL) (gd y i) t j:=fun hno x=>by
   rw [z2]
   constructor
   ·rintro ⟨i,h1,h2,h3⟩
    exact ⟨i,h1,by omega,h3⟩
   ·rintro ⟨i,h1,h2,h3⟩
    by_cases c:i=k
    ·exact absurd (c ▸ h3) hno
    ·exact ⟨i,h1,by omega,h3⟩
  unfold st2
  rw [wEe (by omega) (by omega),hM,wEe (by omega) (by omega),hM]
  by_cases c1:gd p.out k=true
  ·rw [if_pos c1]
   exact ⟨z,rfl,z1,skip (fun h=>by have:=h.1;rw [c1] at this;exact nv this)⟩
  have c1':gd p.out k=false:=by simpa using c1
  obtain ⟨x,ex,hx⟩:=wOx G' (k:Int) (gd y k) t hyk.1 (by
   have:=hyk.2
   simp only at this
   omega)
  rw [if_neg c1,ex,hM]
  rcases hx with ⟨h3,h4⟩ | ⟨j,h3,h4,h5,_⟩
  ·rw [if_neg (by omega)]
   exact ⟨z,rfl,z1,skip (fun h=>by obtain ⟨_,j,hj⟩:=h;exact h4 j hj.1 hj)⟩
  ·rw [if_pos (by omega),wDG (by simp;omega),hM]
   refine ⟨_,rfl,?_,fun x=>?_⟩
   ·rw [nw]
    refine ⟨z1,kQ _ _,fun a ha b hb=>?_⟩
    obtain ⟨i,rfl,hi,_⟩:=(z2 a).1 ha
    have:=nT.1 hb
    omega
   ·rw [nJ,z2,nT]
    constructor
    ·rintro (⟨i,h1,h2,h3⟩ | h)
     ·exact ⟨i,h1,by omega,h3⟩
     ·exact ⟨k,h,by omega,c1',j,h5⟩
    ·rintro ⟨i,h1,h2,h3⟩
     by_cases c:i=k
     ·exact .inr (by rw [h1,c])
     ·exact .inl ⟨i,h1,by omega,h3⟩)
 rw [ez,hM]
 refine ⟨z,y,rfl,h1,h2,G',z1,fun x=>?_⟩
 rw [z2,h1]
end Go.Proofs.YtnbcoenjobdplaaGreat
namespace Go.Proofs.YtnbcoenjobdplaaGreat
open Go.KL
def rA (p:wAL) (z:List Int) (t:Int) (k1191:Nat) (l1188:List wAH):Option (List wAH) :=
      (chk (↑k1191:Int) z.length).bind fun _ =>
      (idx p.Race.Bibs (gd z k1191)).bind fun x1222 =>
      (chk (gd z k1191) p.done.length).bind fun _ =>
      (wBG p (gd z k1191) (gd p.done (gd z k1191).toNat) t).bind fun x1264 =>
      (idx p.Race.Bibs x1264).bind fun x1286 =>
      (app 32 l1188 [(⟨x1222,(gd p.done (gd z k1191).toNat),t,x1286⟩:wAH)]).bind fun x1299 =>
      some x1299
def rO (z:List Int) (k1338:Nat) (l1337:List Bool):Option (List Bool) :=
      (chk (↑k1338:Int) z.length).bind fun _ =>
      (chk (gd z k1338) l1337.length).bind fun _ =>
      some (nD l1337 (gd z k1338).toNat true)
abbrev RS:=(List wAH) × Int × (List Int) × (List (List Int)) × (List Int) × (List Bool)
def rB:RS->Int->Option (RS ⊕ Empty)
 | (l1081,x1085,l1086,l1089,l1092,l1095),x1124 =>
  (wBH (⟨(⟨x1085,l1086,l1089⟩:wAP),l1092,l1095⟩:wAL) x1124).bind fun (x1150,x1151) =>
  (wBc 0 (↑x1150.length:Int) (rA x1151 x1150 x1124) l1081).bind fun y1196 =>
  (wBc 0 (↑x1150.length:Int) (rO x1150) x1151.out).bind fun y1343 =>
  some (.inl (y1196,x1151.Race.Laps,x1151.Race.Bibs,x1151.Race.Times,x1151.done,y1343))
theorem wLL (p0:wAP):wCv p0=((mkz 8 (↑p0.Bibs.length:Int) (0:Int)).bind fun x18 =>
 (mkz 1 (↑p0.Bibs.length:Int) false).bind fun x26 =>
 some (x18,x26)).bind fun (l9,l12) =>
 (wCQ p0).bind fun x520 =>
 (wBA (S:=RS) (E:=Empty) rB ([],p0.Laps,p0.Bibs,p0.Times,l9,l12) x520).bind fun rr1118 =>
 match rr1118 with
 | .inl (y1416,y1417,y1418,y1419,y1420,y1421) =>
  (wAw y1416 (fun x=>wBE x.1 x.2)).bind fun x1438 =>
  some ((⟨(⟨y1417,y1418,y1419⟩:wAP),y1420,y1421⟩:wAL),x1438)
 | .inr e1432 =>
  e1432.elim:=rfl
theorem wMM {S:Type} {f:S->Int->Option (S ⊕ Empty)} {L:List Int} (I:Nat->S->Prop) {s0:S} (hL:L.length <= 1000000) (h0:I 0 s0) (h:∀ k s,k < L.length->I k s->∃ s',f s (gd L k)=some (.inl s')/\I (k + 1) s'):∃ s',wBA f s0 L=some (.inl s')/\I L.length s':=by
 unfold wBA
 rw [wEN (by omega)]
 have key:∀ body:Nat->S->Option (S ⊕ (S ⊕ Empty)),(∀ k s,k < L.length->I k s->∃ s',body k s=some (.inl s')/\I (k + 1) s')->∃ s',jn (forN body L.length 0 s0) (fun y:S=>some (Sum.inl y:S ⊕ Empty))=some (.inl s')/\I L.length s':=by
  intro body hb
  rcases wKd (body:=body) I (fun _=>False) L.length 0 s0 h0 (fun k s _ hk hI=>.inl (hb k s (by omega) hI)) with ⟨s',e,hs⟩ | ⟨_,_,h⟩
  ·rw [kZ] at hs
   exact ⟨s',by rw [e];rfl,hs⟩
  ·exact h.elim
 refine key _ fun k s hk hI=>?_
 obtain ⟨s',e,hs⟩:=h k s hk hI
 refine ⟨s',?_,hs⟩
 rw [wAu hk,hM,e];rfl
structure wLM (r:wAP):Prop where
 n:r.Bibs.length <= 60
 t:r.Times.length=r.Bibs.length
 len:∀ l ∈ r.Times,l.length <= 20
 inc:∀ l ∈ r.Times,l.Pairwise (· < ·)
 pos:∀ l ∈ r.Times,∀ x ∈ l,0 <= x/\x <= 360000
 one:r.Bibs.Nodup
def nbf (τ:Nat->Option Int) (i:Nat) (t:Int):Prop:=∀ s,τ i=some s->t <= s
def lap (r:wAP) (τ:Nat->Option Int) (i:Nat) (t:Int) (j:Nat):Prop :=
 j < r.Bibs.length/\nbf τ j t/\t ∈ gd r.Times j/\cn (gd r.Times i) t + 2 <= cn (gd r.Times j) t
structure Exact (r:wAP) (ts:List Int) (τ:Nat->Option Int):Prop where
 in_:∀ i s,i < r.Bibs.length->τ i=some s->s ∈ ts
 iff:∀ i,i < r.Bibs.length->∀ t ∈ ts,nbf τ i t->(τ i=some t ↔ ∃ j,lap r τ i t j)
structure Ent (r:wAP) (τ:Nat->Option Int) (i:Nat) (o:wAH):Prop where
 bib:o.Bib=gd r.Bibs i
 time:τ i=some o.Time
 done:o.Done=cn (gd r.Times i) o.Time
 by_:∃ j,o.By=gd r.Bibs j/\lap r τ i o.Time j/\∀ k,lap r τ i o.Time k->gd r.Bibs j <= gd r.Bibs k
structure Ents (r:wAP) (τ:Nat->Option Int) (a:List wAH):Prop where
 of:∀ o ∈ a,∃ i,i < r.Bibs.length/\Ent r τ i o
 all:∀ i,i < r.Bibs.length->τ i ≠ none->∃ o ∈ a,o.Bib=gd r.Bibs i
 one:(a.map (·.Bib)).Nodup
def wHP (L:List Int) (k:Nat):Int:=if k=0 then -1 else gd L (k - 1)
structure RInv (r:wAP) (L:List Int) (k:Nat) (s:RS):Prop where
 laps:s.2.1=r.Laps
 bibs:s.2.2.1=r.Bibs
 times:s.2.2.2.1=r.Times
 dl:s.2.2.2.2.1.length=r.Bibs.length
 ol:s.2.2.2.2.2.length=r.Bibs.length
 al:s.1.length <= 60 * k
 tau:∃ τ,(∀ i,i < r.Bibs.length->gd s.2.2.2.2.2 i=(τ i).isSome)/\(∀ i,i < r.Bibs.length->gd s.2.2.2.2.1 i=cn (gd r.Times i) ((τ i).getD (wHP L k)))/\Exact r (L.take k) τ/\Ents r τ s.1
theorem wKj {r:wAP} (G:wLM r) {i j:Nat} (hi:i < r.Bibs.length) (hj:j < r.Bibs.length) (e:gd r.Bibs i=gd r.Bibs j):i=j:=by
 have pw:=nA.1 (nK.1 G.one)
 rw [wCk hi,wCk hj] at e
 rcases ns i j with c | c | c
 ·exact absurd e (pw i j hi hj c)
 ·exact c
 ·exact absurd e.symm (pw j i hj hi c)
theorem wKE {τ τ':Nat->Option Int} {t u:Int} {z:Nat->Prop} (h1:∀ i,z i->τ' i=some t/\τ i=none) (h2:∀ i,¬ z i->τ' i=τ i) (hu:u <= t) (i:Nat):nbf τ' i u ↔ nbf τ i u:=by
 by_cases c:z i
 ·obtain ⟨a,b⟩:=h1 i c
  unfold nbf
  constructor
  ·intro _ s hs;rw [b] at hs;cases hs
  ·intro _ s hs;rw [a] at hs;cases hs;exact hu
 ·unfold nbf;rw [h2 i c]
theorem wHQ {r:wAP} {τ τ':Nat->Option Int} {t u:Int} {z:Nat->Prop} (h1:∀ i,z i->τ' i=some t/\τ i=none) (h2:∀ i,¬ z i->τ' i=τ i) (hu:u <= t) (i j:Nat):lap r τ' i u j ↔ lap r τ i u j:=by
 unfold lap
 rw [wKE h1 h2 hu]
theorem rA_is {r:wAP} (G:wLM r) {τ:Nat->Option Int} {p:wAL} (hp:wJR p) (hr:p.Race=r) {t:Int} {z:List Int} (hz:∀ x ∈ z,∃ i:Nat,x=i/\i < r.Bibs.length/\(∃ j,Lp p (gd p.done i) t j))
  (hL:∀ i j,i < r.Bibs.length->gd p.out i=false->(Lp p (gd p.done i) t j ↔ lap r τ i t j)) (ho:∀ x ∈ z,∀ i:Nat,x=i->gd p.out i=false) (hd:∀ i,i < r.Bibs.length->gd p.out i=false->gd p.done i=cn (gd r.Times i) t)
  (hzl:z.length <= 60) {a:List wAH} (ha:a.length <= 100000):∃ e,wBc 0 (↑z.length:Int) (rA p z t) a=some (a ++ e)/\e.length=z.length/\∀ q,q < z.length->(gd e q).Bib=gd r.Bibs (gd z q).toNat/\(gd e q).Time=t/\(gd e q).Done=cn (gd r.Times (gd z q).toNat) t/\∃ j,(gd e q).By=gd r.Bibs j/\lap r τ (gd z q).toNat t j/\∀ k,lap r τ (gd z q).toNat t k->gd r.Bibs j <= gd r.Bibs k:=by
 have hb:=hp.b
 obtain ⟨s,e,es,h1,h2,h3⟩:=wDe (body:=rA p z t) (n:=z.length) (s0:=a) (fun k s=>∃ e,s=a ++ e/\e.length=k/\∀ q,q < k->(gd e q).Bib=gd r.Bibs (gd z q).toNat/\(gd e q).Time=t/\(gd e q).Done=cn (gd r.Times (gd z q).toNat) t/\∃ j,(gd e q).By=gd r.Bibs j/\lap r τ (gd z q).toNat t j/\∀ k,lap r τ (gd z q).toNat t k->gd r.Bibs j <= gd r.Bibs k) (by omega) ⟨[],by simp,rfl,fun q hq=>by omega⟩ (fun k s hk ⟨e,hs,h2,h3⟩=>by
  obtain ⟨i,hi,hi2,j0,hj0⟩:=hz _ (wAe hk)
  have hout:=ho _ (wAe hk) i hi
  have hpd:=hp.d0 i (by rw [<- hb,hr];exact hi2)
  have hll:=hp.len _ (wAe (l:=p.Race.Times) (k:=i) (by have:=hp.t;rw [this,<- hb,hr];exact hi2))
  have hdn:=hd i hi2 hout
  rw [hr] at hb
  unfold rA
  rw [wEe (by omega) (by omega),hM,hi,hr,wAu hi2,hM,wEe (by omega) (by omega),hM,nM]
  obtain ⟨x,ex,hx⟩:=wOx hp (i:Int) (gd p.done i) t hpd.1 (by omega)
  rw [ex,hM]
  rcases hx with ⟨_,h5⟩ | ⟨j,h4,h5,h6,h7⟩
  ·exact absurd hj0 (h5 j0 hj0.1)
  ·subst h4
   have hj:j < r.Bibs.length:=by rw [hb];exact h5
   rw [wAu hj,hM,wDG (by rw [hs];simp;omega),hM]
   refine ⟨_,rfl,e ++ [⟨gd r.Bibs i,gd p.done i,t,gd r.Bibs j⟩],by rw [hs,nr],by simp [h2],fun q hq=>?_⟩
   by_cases c:q=k
   ·subst c
    have eg:gd (e ++ [(⟨gd r.Bibs i,gd p.done i,t,gd r.Bibs j⟩:wAH)]) q=⟨gd r.Bibs i,gd p.done i,t,gd r.Bibs j⟩:=by rw [<- h2,wKe]
    rw [eg,hi,nM]
    refine ⟨rfl,rfl,hdn,j,rfl,(hL i j hi2 hout).1 h6,fun k hk=>?_⟩
    have hk2:=(hL i k hi2 hout).2 hk
    rw [hr] at h7
    exact h7 k hk2.1 hk2
   ·rw [wGE (by omega)]
    exact h3 q (by omega))
 exact ⟨es,by rw [e,h1],h2,h3⟩
theorem rO_is {z:List Int} {n:Nat} (hz:∀ x ∈ z,0 <= x/\x < n) (hzl:z.length <= 60) {o:List Bool} (ho:o.length=n):∃ o',wBc 0 (↑z.length:Int) (rO z) o=some o'/\o'.length=n/\∀ i:Nat,i < n->gd o' i=if (i:Int) ∈ z then true else gd o i:=by
 obtain ⟨o',e,h1,h2⟩:=wDe (body:=rO z) (n:=z.length) (s0:=o) (fun k o'=>o'.length=n/\∀ i:Nat,i < n->gd o' i=if (i:Int) ∈ z.take k then true else gd o i) (by omega) ⟨ho,fun i _=>by simp⟩ (fun k s hk ⟨h1,h2⟩=>by
  have hr:=hz _ (wAe hk)
  unfold rO
  rw [wEe (by omega) (by omega),hM,wEe (by omega) (by omega),hM]
  refine ⟨_,rfl,by simpa using h1,fun i hi=>?_⟩
  rw [wKi (by omega) (by omega),h2 i hi,wDq hk]
  by_cases c:i=(gd z k).toNat
  ·rw [if_pos c,if_pos (by rw [nJ,nT];right;omega)]
  ·rw [if_neg c]
   have:((i:Int) ∈ z.take k ++ [gd z k]) ↔ (i:Int) ∈ z.take k:=by
    rw [nJ,nT]
    exact ⟨fun h=>h.elim id fun h=>absurd h (by omega),.inl⟩
   simp only [this])
 exact ⟨o',e,h1,fun i hi=>by rw [h2 i hi,nE]⟩
end Go.Proofs.YtnbcoenjobdplaaGreat
namespace Go.Proofs.YtnbcoenjobdplaaGreat
open Go.KL
structure Times (r:wAP) (L:List Int):Prop where
 inc:L.Pairwise (· < ·)
 all:∀ x,x ∈ L ↔ ∃ l ∈ r.Times,x ∈ l
 len:L.length <= 1200
theorem wNy {L:List Int} (hL:L.Pairwise (· < ·)) (h0:∀ x ∈ L,0 <= x) {k:Nat} (hk:k < L.length):wHP L k < gd L k/\(∀ x ∈ L.take k,x <= wHP L k/\x < gd L k)/\∀ x ∈ L,wHP L k < x->gd L k <= x:=by
 have mono:∀ i j,i < j->j < L.length->gd L i < gd L j:=fun i j hij hj=>by
  have:=nA.1 hL i j (by omega) hj hij
  rwa [<- wCk (by omega),<- wCk hj] at this
 have le:∀ i j,i <= j->j < L.length->gd L i <= gd L j:=fun i j hij hj=>by
  by_cases e:i=j
  ·subst e;exact nN _
  ·exact kO (mono i j (by omega) hj)
 unfold wHP
 refine ⟨?_,fun x hx=>?_,fun x hx hlt=>?_⟩
 ·split
  ·have:=h0 _ (wAe hk);omega
  ·exact mono _ _ (by omega) hk
 ·obtain ⟨i,hi,e⟩:=nB hx
  rw [nY] at hi
  rw [List.getElem_take,<- wCk (by omega)] at e
  subst e
  rw [if_neg (by omega)]
  exact ⟨le _ _ (by omega) (by omega),mono _ _ (by omega) hk⟩
 ·obtain ⟨i,hi,e⟩:=nB hx
  rw [<- wCk hi] at e
  subst e
  rcases nl i k with c | c
  ·exfalso
   rw [if_neg (by omega)] at hlt
   have:=le i (k - 1) (by omega) (by omega)
   omega
  ·exact le _ _ c hi
theorem wNA {r:wAP} (G:wLM r) {L:List Int} (hT:Times r L) {k:Nat} (hk:k < L.length) {s:RS} (I:RInv r L k s):∃ s',rB s (gd L k)=some (.inl s')/\RInv r L (k + 1) s':=by
 obtain ⟨A,laps,bibs,times,done,out⟩:=s
 obtain ⟨e1,e2,e3,dl,ol,al,τ,to,td,tx,te⟩:=I
 simp only at e1 e2 e3 dl ol al to td te
 subst e1 e2 e3
 have hn:=G.n
 have hrt:=G.t
 have hpos:∀ x ∈ L,0 <= x:=fun x hx=>by
  obtain ⟨l,hl,hx⟩:=(hT.all x).1 hx
  exact (G.pos l hl x hx).1
 obtain ⟨lt1,lt2,lt3⟩:=wNy hT.inc hpos hk
 have hkl:=hT.len
 generalize ht:gd L k=t at lt1 lt2 lt3 ⊢
 have tin:∀ i,i < r.Bibs.length->gd r.Times i ∈ r.Times:=fun i hi=>wAe (by omega)
 let p:wAL:=⟨r,done,out⟩
 have Gp:wJR p:=⟨by show done.length <= 60;omega,by show out.length=done.length;omega,by show r.Bibs.length=done.length;omega,by show r.Times.length=done.length;omega,fun i hi=>by
  have hi':i < r.Bibs.length:=by rw [<- dl];exact hi
  show 0 <= gd done i/\gd done i <= ((gd r.Times i).length:Int)
  rw [td i hi']
  have:=wLK (gd r.Times i) ((τ i).getD (wHP L k))
  omega,fun l hl=>by have:=G.len l hl;omega⟩
 obtain ⟨z,y,ez,yl,yn,Gy,zp,zi⟩:=wNx Gp t
 have yl':y.length=r.Bibs.length:=by rw [yl];exact dl
 have outN:∀ i,i < r.Bibs.length->(gd out i=false ↔ τ i=none):=fun i hi=>by
  rw [to i hi]
  cases τ i <;> simp
 have yv:∀ i,i < r.Bibs.length->gd y i=cn (gd r.Times i) ((τ i).getD t):=fun i hi=>by
  have h1:=yn i (by rw [dl];exact hi)
  rw [h1]
  unfold nx
  show (if gd out i=false/\gd done i < ((gd r.Times i).length:Int)/\gd (gd r.Times i) (gd done i).toNat=t then gd done i + 1 else gd done i)=_
  cases hτ:τ i with
  | some s =>
   have ho:gd out i=true:=by rw [to i hi,hτ];rfl
   rw [if_neg (fun h=>by rw [ho] at h;exact nv h.1),td i hi,hτ]
   rfl
  | none =>
   have ho:gd out i=false:=(outN i hi).2 hτ
   have hd:=td i hi
   rw [hτ] at hd
   simp only [kP] at hd ⊢
   rw [wNw (G.inc _ (tin i hi)) lt1 (fun x hx hlt=>lt3 x ((hT.all x).2 ⟨_,tin i hi,hx⟩) hlt),hd]
   by_cases c:cn (gd r.Times i) (wHP L k) < (gd r.Times i).length/\gd (gd r.Times i) (cn (gd r.Times i) (wHP L k))=t
   ·rw [if_pos c,if_pos ⟨ho,by omega,by rw [nM];exact c.2⟩]
    omega
   ·rw [if_neg c,if_neg (fun h=>c ⟨by omega,by have:=h.2.2;rwa [nM] at this⟩)]
 have nbN:∀ j,j < r.Bibs.length->(nbf τ j t ↔ τ j=none):=fun j hj=>by
  constructor
  ·intro h
   cases hτ:τ j with
   | none=>rfl
   | some s =>
    have h1:=h s hτ
    have h2:=lt2 s (tx.in_ j s hj hτ)
    omega
  ·intro h s hs;rw [h] at hs;cases hs
 have lapN:∀ i j,i < r.Bibs.length->gd out i=false->(Lp (⟨r,y,out⟩:wAL) (gd y i) t j ↔ lap r τ i t j):=fun i j hi ho=>by
  have yi:gd y i=cn (gd r.Times i) t:=by rw [yv i hi,(outN i hi).1 ho];rfl
  unfold Lp lap
  show (j < y.length/\gd out j=false/\gd y i + 2 <= gd y j/\gd (gd r.Times j) (gd y j - 1).toNat=t) ↔ _
  rw [yl']
  constructor
  ·rintro ⟨hj,h1,h2,h3⟩
   have hτ:=(outN j hj).1 h1
   have yj:gd y j=cn (gd r.Times j) t:=by rw [yv j hj,hτ];rfl
   rw [yi,yj] at h2
   rw [yj] at h3
   have hle:=wLK (gd r.Times j) t
   refine ⟨hj,(nbN j hj).2 hτ,?_,by omega⟩
   have hm:=wAe (l:=gd r.Times j) (k:=((cn (gd r.Times j) t:Nat) - 1:Int).toNat) (by omega)
   rwa [h3] at hm
  ·rintro ⟨hj,h1,h2,h3⟩
   have hτ:=(nbN j hj).1 h1
   have yj:gd y j=cn (gd r.Times j) t:=by rw [yv j hj,hτ];rfl
   obtain ⟨c1,c2,c3⟩:=wOw (G.inc _ (tin j hj)) h2
   refine ⟨hj,(outN j hj).2 hτ,by rw [yi,yj];omega,?_⟩
   rw [yj,show (((cn (gd r.Times j) t:Nat):Int) - 1).toNat=cn (gd r.Times j) t - 1 by omega]
   exact c3
 have zin:∀ x,x ∈ z ↔ ∃ i:Nat,x=i/\i < r.Bibs.length/\τ i=none/\∃ j,lap r τ i t j:=fun x=>by
  rw [zi]
  constructor
  ·rintro ⟨i,h1,h2,h3,j,h4⟩
   have hi:i < r.Bibs.length:=by rw [<- dl];exact h2
   exact ⟨i,h1,hi,(outN i hi).1 h3,j,(lapN i j hi h3).1 h4⟩
  ·rintro ⟨i,h1,hi,h3,j,h4⟩
   exact ⟨i,h1,by rw [<- dl] at hi;exact hi,(outN i hi).2 h3,j,(lapN i j hi ((outN i hi).2 h3)).2 h4⟩
 have zl:z.length <= 60:=by
  have key:∀ m,m < z.length->(m:Int) <= gd z m:=by
   intro m
   induction m with
   | zero =>
    intro hm
    obtain ⟨i,h1,_⟩:=(zin _).1 (wAe hm)
    omega
   | succ m ih =>
    intro hm
    have h3:=ih (by omega)
    have h4:=nA.1 zp m (m + 1) (by omega) hm (by omega)
    rw [<- wCk (by omega),<- wCk hm] at h4
    omega
  rcases nl 60 z.length with c | c
  ·have h5:=key 60 c
   obtain ⟨i,h1,h2,_⟩:=(zin _).1 (wAe c)
   omega
  ·exact c
 obtain ⟨E,eE,El,Ee⟩:=rA_is (τ:=τ) G (p:=⟨r,y,out⟩) Gy rfl (t:=t) (z:=z) (fun x hx=>by
   obtain ⟨i,h1,h2,h3,j,h4⟩:=(zin x).1 hx
   exact ⟨i,h1,h2,j,(lapN i j h2 ((outN i h2).2 h3)).2 h4⟩) lapN (fun x hx i hi=>by
   obtain ⟨i',h1,h2,h3,_⟩:=(zin x).1 hx
   have:i=i':=by omega
   subst this
   exact (outN i h2).2 h3) (fun i hi ho=>by
   show gd y i=_
   rw [yv i hi,(outN i hi).1 ho];rfl) zl (a:=A) (by omega)
 obtain ⟨o',eo,ol',oi⟩:=rO_is (n:=r.Bibs.length) (z:=z) (fun x hx=>by
  obtain ⟨i,h1,h2,_⟩:=(zin x).1 hx
  omega) zl (o:=out) ol
 have er:rB (A,r.Laps,r.Bibs,r.Times,done,out) t=some (.inl (A ++ E,r.Laps,r.Bibs,r.Times,y,o')):=by
  unfold rB
  simp only
  rw [show wBH (⟨(⟨r.Laps,r.Bibs,r.Times⟩:wAP),done,out⟩:wAL) t=some (z,(⟨r,y,out⟩:wAL)) from ez,hM]
  simp only
  rw [eE,hM,eo,hM]
 obtain ⟨τ',hτ1,hτ2⟩:∃ τ':Nat->Option Int,(∀ i:Nat,(i:Int) ∈ z->τ' i=some t)/\∀ i:Nat,¬ (i:Int) ∈ z->τ' i=τ i:=⟨fun i=>if (i:Int) ∈ z then some t else τ i,fun i hi=>if_pos hi,fun i hi=>if_neg hi⟩
 refine ⟨_,er,rfl,rfl,rfl,yl',ol',by simp only [nL];omega,τ',fun i hi=>?_,fun i hi=>?_,?_,?_⟩
 ·simp only
  rw [oi i hi]
  by_cases c:(i:Int) ∈ z
  ·rw [if_pos c,hτ1 i c];rfl
  ·rw [if_neg c,hτ2 i c];exact to i hi
 ·simp only
  rw [yv i hi]
  have hl:wHP L (k + 1)=t:=by unfold wHP;rw [if_neg (by omega)];exact ht
  rw [hl]
  by_cases c:(i:Int) ∈ z
  ·rw [hτ1 i c]
   obtain ⟨i',h1,h2,h3,_⟩:=(zin _).1 c
   have:i=i':=by omega
   subst this
   rw [h3];rfl
  ·rw [hτ2 i c]
 ·
  have h1:∀ i:Nat,(i:Int) ∈ z->τ' i=some t/\τ i=none:=fun i hi=>by
   obtain ⟨i',h1,_,h3,_⟩:=(zin _).1 hi
   have:i=i':=by omega
   subst this
   exact ⟨hτ1 i hi,h3⟩
  have h2:∀ i:Nat,¬ (i:Int) ∈ z->τ' i=τ i:=hτ2
  have tk:∀ u,u ∈ L.take (k + 1) ↔ u ∈ L.take k \/ u=t:=fun u=>by rw [wDq hk,nJ,nT,ht]
  refine ⟨fun i u hi hu=>?_,fun i hi u hu hnb=>?_⟩
  ·rw [tk]
   by_cases c:(i:Int) ∈ z
   ·have:=(h1 i c).1
    rw [this] at hu
    right
    exact (na hu).symm
   ·rw [h2 i c] at hu
    exact .inl (tx.in_ i u hi hu)
  ·rcases (tk u).1 hu with hu | hu
   ·have hut:=(lt2 u hu).2
    rw [wKE (z:=fun i:Nat=>(i:Int) ∈ z) h1 h2 (kO hut)] at hnb
    have:=tx.iff i hi u hu hnb
    simp only [wHQ (r:=r) (z:=fun i:Nat=>(i:Int) ∈ z) h1 h2 (kO hut)]
    rw [<- this]
    by_cases c:(i:Int) ∈ z
    ·rw [(h1 i c).1,(h1 i c).2]
     exact ⟨fun h=>by have:=na h;omega,fun h=>by cases h⟩
    ·rw [h2 i c]
   ·subst hu
    rw [wKE (z:=fun i:Nat=>(i:Int) ∈ z) h1 h2 (nN _),nbN i hi] at hnb
    simp only [wHQ (r:=r) (z:=fun i:Nat=>(i:Int) ∈ z) h1 h2 (nN _)]
    constructor
    ·intro h
     by_cases c:(i:Int) ∈ z
     ·obtain ⟨i',g1,_,_,g4⟩:=(zin _).1 c
      have:i=i':=by omega
      subst this
      exact g4
     ·rw [h2 i c,hnb] at h;cases h
    ·intro h
     exact (h1 i ((zin _).2 ⟨i,rfl,hi,hnb,h⟩)).1
 ·have h1:∀ i:Nat,(i:Int) ∈ z->τ' i=some t/\τ i=none:=fun i hi=>by
   obtain ⟨i',h1,_,h3,_⟩:=(zin _).1 hi
   have:i=i':=by omega
   subst this
   exact ⟨hτ1 i hi,h3⟩
  have h2:∀ i:Nat,¬ (i:Int) ∈ z->τ' i=τ i:=hτ2
  have hA:∀ o ∈ A,∃ i,i < r.Bibs.length/\Ent r τ i o/\¬ (i:Int) ∈ z/\o.Time <= t:=fun o ho=>by
   obtain ⟨i,hi,hE⟩:=te.of o ho
   refine ⟨i,hi,hE,fun c=>?_,kO (lt2 _ (tx.in_ i _ hi hE.time)).2⟩
   have:=(h1 i c).2
   rw [hE.time] at this
   cases this
  have hE:∀ q,q < z.length->∃ i:Nat,gd z q=i/\i < r.Bibs.length/\τ i=none/\(i:Int) ∈ z:=fun q hq=>by
   obtain ⟨i,g1,g2,g3,_⟩:=(zin _).1 (wAe hq)
   exact ⟨i,g1,g2,g3,g1 ▸ wAe hq⟩
  refine ⟨fun o ho=>?_,fun i hi hτ=>?_,?_⟩
  ·rcases nJ.1 ho with ho | ho
   ·obtain ⟨i,hi,he,hz,hot⟩:=hA o ho
    obtain ⟨j,j1,j2,j3⟩:=he.by_
    refine ⟨i,hi,he.bib,by rw [h2 i hz];exact he.time,he.done,j,j1,(wHQ (z:=fun i:Nat=>(i:Int) ∈ z) h1 h2 hot i j).2 j2,fun q hq=>j3 q ((wHQ (z:=fun i:Nat=>(i:Int) ∈ z) h1 h2 hot i q).1 hq)⟩
   ·obtain ⟨q,hq,eq⟩:=nB ho
    rw [<- wCk hq] at eq
    subst eq
    obtain ⟨i,g1,g2,_,g4⟩:=hE q (by omega)
    obtain ⟨b1,b2,b3,j,j1,j2,j3⟩:=Ee q (by omega)
    rw [g1,nM] at b1 b3 j2
    refine ⟨i,g2,b1,by rw [b2];exact (h1 i g4).1,by rw [b2];exact b3,j,j1,by rw [b2];exact (wHQ (z:=fun i:Nat=>(i:Int) ∈ z) h1 h2 (nN _) i j).2 j2,fun q' hq'=>?_⟩
    rw [b2] at hq'
    have:=j3 q' (by rw [g1,nM];exact (wHQ (z:=fun i:Nat=>(i:Int) ∈ z) h1 h2 (nN _) i q').1 hq')
    exact this
  ·by_cases c:(i:Int) ∈ z
   ·obtain ⟨q,hq,eq⟩:=nB c
    rw [<- wCk hq] at eq
    refine ⟨gd E q,kS _ (wAe (by omega)),?_⟩
    rw [(Ee q hq).1,eq,nM]
   ·rw [hτ2 i c] at hτ
    obtain ⟨o,ho,e⟩:=te.all i hi hτ
    exact ⟨o,List.mem_append_left _ ho,e⟩
  ·rw [nQ,np]
   refine ⟨te.one,?_,fun a ha b hb e=>?_⟩
   ·rw [nK,nA]
    intro a b ha hb hab e
    rw [nH] at ha hb
    rw [nG,nG,<- wCk ha,<- wCk hb,(Ee a (by omega)).1,(Ee b (by omega)).1] at e
    obtain ⟨i,g1,g2,_⟩:=hE a (by omega)
    obtain ⟨j,g3,g4,_⟩:=hE b (by omega)
    rw [g1,g3,nM,nM] at e
    have:=wKj G g2 g4 e
    have h4:=nA.1 zp a b (by omega) (by omega) hab
    rw [<- wCk (by omega),<- wCk (by omega)] at h4
    omega
   ·obtain ⟨o,ho,e1⟩:=nP.1 ha
    obtain ⟨i,hi,he,hz,_⟩:=hA o ho
    obtain ⟨o2,ho2,e2⟩:=nP.1 hb
    obtain ⟨q,hq,eq⟩:=nB ho2
    rw [<- wCk hq] at eq
    subst eq
    obtain ⟨j,g3,g4,_,g5⟩:=hE q (by omega)
    rw [(Ee q (by omega)).1,g3,nM] at e2
    have:=wKj G hi g4 (by rw [<- he.bib,e1,e,e2])
    subst this
    exact hz g5
end Go.Proofs.YtnbcoenjobdplaaGreat
namespace Go.Proofs.YtnbcoenjobdplaaGreat
open Go.KL
theorem wIS {zs:List Int} (h:zs.Pairwise (· <= ·)):(Go.Lib.compact zs).Pairwise (· < ·)/\(∀ x,x ∈ Go.Lib.compact zs ↔ x ∈ zs)/\(Go.Lib.compact zs).length <= zs.length:=by
 have hg:∀ i,i < zs.length->(zs.toArray[i]!)=gd zs i:=fun i hi=>by
  rw [getElem!_pos zs.toArray i (by simpa using hi),wCk hi];simp
 have le:∀ i j,i <= j->j < zs.length->gd zs i <= gd zs j:=fun i j hij hj=>by
  by_cases e:i=j
  ·subst e;exact nN _
  ·have:=nA.1 h i j (by omega) hj (by omega)
   rwa [<- wCk (by omega),<- wCk hj] at this
 have key:∀ m,m <= zs.length->(Go.Lib.compactUpTo zs.toArray m).Pairwise (· < ·)/\(∀ x,x ∈ Go.Lib.compactUpTo zs.toArray m ↔ ∃ j,j < m/\gd zs j=x)/\(Go.Lib.compactUpTo zs.toArray m).length <= m:=by
  intro m
  induction m with
  | zero=>intro _;exact ⟨by simp [Go.Lib.compactUpTo],fun x=>by simp [Go.Lib.compactUpTo],by simp [Go.Lib.compactUpTo]⟩
  | succ m ih =>
   intro hm
   obtain ⟨h1,h2,h3⟩:=ih (by omega)
   rw [Go.Lib.compactUpTo_succ]
   by_cases c:Go.Lib.keeps zs.toArray m=true
   ·rw [if_pos c,hg m (by omega)]
    refine ⟨?_,fun x=>?_,by simp;omega⟩
    ·rw [nw]
     refine ⟨h1,kQ _ _,fun a ha b hb=>?_⟩
     obtain ⟨j,hj,e⟩:=(h2 a).1 ha
     have hb':=nT.1 hb
     unfold Go.Lib.keeps at c
     simp only [decide_eq_true_iff] at c
     rcases c with c | c
     ·omega
     ·rw [hg m (by omega),hg (m - 1) (by omega)] at c
      have l1:=le j (m - 1) (by omega) (by omega)
      have l2:=le (m - 1) m (by omega) (by omega)
      omega
    ·rw [nJ,nT,h2]
     constructor
     ·rintro (⟨j,hj,e⟩ | e)
      ·exact ⟨j,by omega,e⟩
      ·exact ⟨m,by omega,e.symm⟩
     ·rintro ⟨j,hj,e⟩
      by_cases ej:j=m
      ·subst ej;exact .inr e.symm
      ·exact .inl ⟨j,by omega,e⟩
   ·rw [if_neg c,List.append_nil]
    refine ⟨h1,fun x=>?_,by omega⟩
    have m0:m ≠ 0/\gd zs m=gd zs (m - 1):=by
     unfold Go.Lib.keeps at c
     simp only [decide_eq_true_iff,not_or,ne_eq,Decidable.not_not] at c
     have:=c.2
     rw [hg m (by omega),hg (m - 1) (by omega)] at this
     exact ⟨c.1,this⟩
    rw [h2]
    constructor
    ·rintro ⟨j,hj,e⟩
     exact ⟨j,by omega,e⟩
    ·rintro ⟨j,hj,e⟩
     by_cases ej:j=m
     ·subst ej;exact ⟨j - 1,by omega,by rw [<- m0.2];exact e⟩
     ·exact ⟨j,by omega,e⟩
 obtain ⟨h1,h2,h3⟩:=key zs.length (kF _)
 refine ⟨h1,fun x=>?_,h3⟩
 show x ∈ Go.Lib.compactUpTo zs.toArray zs.length ↔ _
 rw [h2]
 constructor
 ·rintro ⟨j,hj,e⟩
  exact e ▸ wAe hj
 ·intro hx
  obtain ⟨j,hj,e⟩:=nB hx
  exact ⟨j,hj,by rw [wCk hj];exact e⟩
theorem wKk {T:List (List Int)} (hl:∀ l ∈ T,l.length <= 20):∀ k,(T.take k).flatten.length <= 20 * k:=by
 intro k
 induction k generalizing T with
 | zero=>simp
 | succ k ih =>
  cases T with
  | nil=>simp
  | cons a T =>
   rw [List.take_succ_cons,List.flatten_cons,nL]
   have:=hl a (by simp)
   have:=ih (T:=T) fun l h=>hl l (by simp [h])
   omega
theorem wJS {T:List (List Int)} {k:Nat} (hk:k < T.length):(T.take (k + 1)).flatten=(T.take k).flatten ++ gd T k:=by
 rw [wDq hk,List.flatten_append];simp
theorem wMN {T:List (List Int)} (hn:T.length <= 60) (hl:∀ l ∈ T,l.length <= 20):wBf T=some T.flatten:=by
 unfold wBf
 have fl:=wKk hl
 obtain ⟨x,ex,hx⟩:=wDe (body:=fun (k7:Nat) (x6:Int) =>
  (idx T (↑k7:Int)).bind fun x29 =>
  if (w64 (x6 + (↑x29.length:Int))) < 0 then
   none
  else
   some (w64 (x6 + (↑x29.length:Int)))) (n:=T.length) (s0:=(0:Int)) (fun k x=>x=((T.take k).flatten.length:Int)) (by omega) (by simp) (fun k x hk hx=>by
  have h1:=hl _ (wAe hk)
  have h2:=fl k
  rw [wAu hk,hM,hx,wAT (by omega) (by omega),if_neg (by omega)]
  exact ⟨_,rfl,by rw [wJS hk,nL];omega⟩)
 have h60:=fl T.length
 rw [nE] at h60 hx
 have eg:wCK [] x=some []:=by
  unfold wCK
  rw [if_neg (by omega),wAT (by omega) (by omega)]
  by_cases c:0 < x - 0
  ·rw [if_pos c,appZ,if_pos (by omega)];rfl
  ·rw [if_neg c]
 have e2:=wCu (body:=fun (k86:Nat) (l83:List Int) =>
  (idx T (↑k86:Int)).bind fun x107 =>
  (app 8 l83 x107).bind fun x122 =>
  some x122) (n:=T.length) (s0:=[]) (fun k=>(T.take k).flatten) (by simp) (by omega) (fun i hi=>by
  have h1:=hl _ (wAe hi)
  have h2:=fl i
  rw [wAu hi,hM,wDG (by omega),hM,wJS hi])
 rw [nE] at e2
 rw [ex,hM,eg,hM,e2,hM]
theorem wNB {r:wAP} (G:wLM r):∃ L,wCQ r=some L/\Times r L:=by
 unfold wCQ
 have hn:=G.n
 have hl:=wKk G.len r.Times.length
 rw [nE] at hl
 have ht:=G.t
 rw [wMN (by omega) G.len,hM]
 have e1:wCp r.Times.flatten=some (r.Times.flatten.mergeSort fun x y=>decide (x <= y)):=by
  unfold wCp wMo
  exact if_pos (by omega)
 rw [e1,hM]
 have hp:=kA r.Times.flatten fun x y=>decide (x <= y)
 have so:=nm (le:=fun x y:Int=>decide (x <= y)) (fun a b c h1 h2=>by simp at h1 h2 ⊢;omega) (fun a b=>by simp;omega) r.Times.flatten
 have hlen:=hp.length_eq
 generalize r.Times.flatten.mergeSort (fun x y=>decide (x <= y))=M at hp so hlen
 obtain ⟨c1,c2,c3⟩:=wIS (zs:=M) (so.imp fun h=>by simpa using h)
 have e2:wCP M=some (Go.Lib.compact M):=by
  unfold wCP wHe
  exact if_pos (by omega)
 rw [e2,hM]
 unfold wCY
 refine ⟨_,rfl,c1,fun x=>?_,by omega⟩
 rw [c2,hp.mem_iff,List.mem_flatten]
def ltO (a b:wAH):Prop:=a.Time < b.Time \/ a.Time=b.Time/\a.Bib < b.Bib
instance (a b:wAH):Decidable (ltO a b):=by unfold ltO;exact inferInstance
theorem cmpO (a b:wAH):wBE a b=some (if a.Time < b.Time then -1 else if b.Time < a.Time then 1 else if a.Bib < b.Bib then -1 else if b.Bib < a.Bib then 1 else 0):=by
 have hc:∀ x y:Int,wAr x y=some (if x < y then -1 else if y < x then 1 else 0):=fun x y=>by
  unfold wAr wCz
  simp only [not_true_eq_false,decide_false,hM,kG,if_false]
  split
  ·rfl
  ·split <;> rfl
 have ho:∀ x y:Int,wCq [x,y]=some (if x=0 then y else x):=fun x y=>by
  unfold wCq
  rw [wEN (by simp)]
  show jn (forN _ 2 0 ()) _=_
  have i0:idx [x,y] ((0:Nat):Int)=some x:=rfl
  have i1:idx [x,y] ((0 + 1:Nat):Int)=some y:=rfl
  simp only [forN,i0,i1,hM]
  by_cases c:x=0
  ·simp only [if_pos c]
   by_cases d:y=0
   ·simp only [if_pos d,d];rfl
   ·simp only [if_neg d];rfl
  ·simp only [if_neg c];rfl
 unfold wBE
 rw [hc,hM,hc,hM,ho,hM]
 by_cases c1:a.Time < b.Time
 ·simp [c1]
 ·by_cases c2:b.Time < a.Time
  ·simp [c1,c2]
  ·simp only [c1,c2,if_false,if_true]
structure wNz (r:wAP) (D:List Int) (A:List wAH) (τ:Nat->Option Int):Prop where
 dl:D.length=r.Bibs.length
 done:∀ i,i < r.Bibs.length->(τ i=none/\gd D i=(gd r.Times i).length) \/ ∃ s,τ i=some s/\gd D i=cn (gd r.Times i) s
 ex:∀ i,i < r.Bibs.length->∀ j,j < r.Bibs.length->∀ t ∈ gd r.Times j,nbf τ i t->(τ i=some t ↔ ∃ k,lap r τ i t k)
 in_:∀ i s,i < r.Bibs.length->τ i=some s->∃ l ∈ r.Times,s ∈ l
 ents:Ents r τ A
 ord:A.Pairwise ltO
 al:A.length <= 100000
theorem wMO {r:wAP} (G:wLM r):∃ p A τ,wCv r=some (p,A)/\wNz r p.done A τ:=by
 rw [wLL]
 have hn:=G.n
 have ht:=G.t
 rw [mkz,if_pos (by omega),hM,mkz,if_pos (by omega),hM,hM]
 simp only
 obtain ⟨L,eL,hT⟩:=wNB G
 rw [eL,hM]
 have hpos:∀ x ∈ L,0 <= x:=fun x hx=>by
  obtain ⟨l,hl,hx⟩:=(hT.all x).1 hx
  exact (G.pos l hl x hx).1
 have hll:=hT.len
 obtain ⟨⟨A,laps,bibs,times,done,out⟩,e,I⟩:=wMM (f:=rB) (L:=L) (s0:=([],r.Laps,r.Bibs,r.Times,kC (r.Bibs.length:Int).toNat 0,kC (r.Bibs.length:Int).toNat false)) (RInv r L) (by omega) ⟨rfl,rfl,rfl,by simp,by simp,by simp,fun _=>none,fun i hi=>by rw [wCk (by simpa using hi)];simp,fun i hi=>by
   rw [wCk (by simpa using hi)]
   have:cn (gd r.Times i) (-1)=0:=nz.2 fun x hx=>by
    have:=(G.pos _ (wAe (l:=r.Times) (k:=i) (by omega)) x hx).1
    simp;omega
   simp only [kP,wHP,if_true,this,List.getElem_replicate]
   rfl,⟨(fun i s _ h=>by cases h),(fun i _ t ht=>by rw [List.take_zero] at ht;cases ht)⟩,⟨(fun o ho=>by cases ho),(fun i _ h=>absurd rfl h),by simp⟩⟩ (fun k s hk I=>wNA G hT hk I)
 rw [e,hM]
 obtain ⟨e1,e2,e3,dl,ol,al,τ,to,td,tx,te⟩:=I
 simp only at e1 e2 e3 dl ol al to td te
 rw [nE] at tx
 simp only
 have lt:∀ a b:wAH,ltB (fun x:wAH × wAH=>wBE x.1 x.2) a b=decide (ltO a b):=fun a b=>by
  unfold ltB ltO
  simp only [cmpO]
  by_cases c1:a.Time < b.Time
  ·simp [c1]
  ·by_cases c2:b.Time < a.Time
   ·simp [c1,c2];omega
   ·have c3:a.Time=b.Time:=by omega
    by_cases c4:a.Bib < b.Bib
    ·simp [c3,c4]
    ·by_cases c5:b.Bib < a.Bib <;> simp [c3,c4,c5]
 have one:∀ x ∈ A,∀ y ∈ A,x.Bib=y.Bib->x=y:=fun x hx y hy e=>by
  obtain ⟨i,hi,ei⟩:=nB hx
  obtain ⟨j,hj,ej⟩:=nB hy
  have pw:=nA.1 (nK.1 te.one)
  rcases ns i j with c | c | c
  ·have:=pw i j (by simpa using hi) (by simpa using hj) c
   rw [nG,nG,ei,ej] at this
   exact absurd e this
  ·subst c;rw [<- ei,<- ej]
  ·have:=pw j i (by simpa using hj) (by simpa using hi) c
   rw [nG,nG,ei,ej] at this
   exact absurd e.symm this
 have C:Cmp (fun x:wAH × wAH=>wBE x.1 x.2) A:=by
  refine ⟨by omega,fun x _ y _=>by show (wBE x y).isSome=true;rw [cmpO];rfl,fun x _=>by rw [lt];simp [ltO],fun x _ y _ w _ a b=>?_,fun x _ y _ w _ a b=>?_,fun x hx y hy a b=>?_⟩
  ·rw [lt] at a b ⊢
   simp only [decide_eq_true_iff] at a b ⊢
   simp only [ltO] at a b ⊢
   omega
  ·rw [lt] at a b ⊢
   simp only [decide_eq_false_iff_not] at a b ⊢
   simp only [ltO] at a b ⊢
   omega
  ·rw [lt] at a b
   simp only [decide_eq_false_iff_not] at a b
   simp only [ltO] at a b
   exact one x hx y hy (by omega)
 unfold wAw
 rw [wKW C,hM]
 have hp:=kA A fun x y=>!ltB (fun x:wAH × wAH=>wBE x.1 x.2) y x
 have so:=nm (le:=fun x y:wAH=>!ltB (fun x:wAH × wAH=>wBE x.1 x.2) y x) (fun a b c h1 h2=>by
   rw [lt] at h1 h2 ⊢
   simp only [nX,decide_eq_false_iff_not] at h1 h2 ⊢
   simp only [ltO] at h1 h2 ⊢
   omega) (fun a b=>by
   rw [lt,lt]
   simp only [Bool.or_eq_true,nX,decide_eq_false_iff_not]
   simp only [ltO]
   omega) A
 generalize A.mergeSort (fun x y=>!ltB (fun x:wAH × wAH=>wBE x.1 x.2) y x)=A' at hp so
 refine ⟨_,A',τ,rfl,dl,fun i hi=>?_,fun i hi j hj t htj=>tx.iff i hi t ((hT.all t).2 ⟨_,wAe (by omega),htj⟩),fun i s hi hs=>(hT.all s).1 (tx.in_ i s hi hs),⟨fun o ho=>te.of o (hp.mem_iff.1 ho),fun i hi h=>?_,(hp.map _).nodup_iff.2 te.one⟩,?_,by have:=hp.length_eq;omega⟩
 ·have hd:=td i hi
  cases hτ:τ i with
  | some s =>
   right
   refine ⟨s,rfl,?_⟩
   rw [hd,hτ];rfl
  | none =>
   left
   refine ⟨rfl,?_⟩
   show gd done i=_
   rw [hd,hτ]
   have:cn (gd r.Times i) (wHP L L.length)=(gd r.Times i).length:=by
    refine List.countP_eq_length.2 fun x hx=>?_
    have hxl:x ∈ L:=(hT.all x).2 ⟨_,wAe (by omega),hx⟩
    obtain ⟨q,hq,eq⟩:=nB hxl
    rw [<- wCk hq] at eq
    unfold wHP
    rw [if_neg (by omega),<- eq]
    by_cases c:q=L.length - 1
    ·subst c;simp
    ·have:=nA.1 hT.inc q (L.length - 1) hq (by omega) (by omega)
     rw [<- wCk hq,<- wCk (by omega)] at this
     simp;omega
   rw [kP,this]
 ·obtain ⟨o,ho,e⟩:=te.all i hi h
  exact ⟨o,hp.mem_iff.2 ho,e⟩
 ·have nd:=(hp.map (·.Bib)).nodup_iff.2 te.one
  refine (so.and (kK.1 (nK.1 nd))).imp fun {a b} h=>?_
  obtain ⟨h1,h2⟩:=h
  rw [lt] at h1
  simp only [nX,decide_eq_false_iff_not] at h1 ⊢
  simp only [ltO] at h1 ⊢
  omega
end Go.Proofs.YtnbcoenjobdplaaGreat
namespace Go.Proofs.YtnbcoenjobdplaaGreat
open Go.KL
theorem wJT {K V:Type} [DecidableEq K] {m:List (K × V)} {x y:K} {v:V}:wLg (wGS m x v) y=if y=x then some v else wLg m y:=by
 induction m with
 | nil=>simp only [wGS,wLg]
 | cons p m ih =>
  obtain ⟨a,u⟩:=p
  rw [wGS]
  by_cases h:x=a
  ·subst h
   rw [if_pos rfl,wLg,wLg]
   split <;> rfl
  ·rw [if_neg h,wLg,wLg,ih]
   by_cases h2:y=a
   ·rw [if_pos h2,if_neg (fun e:y=x=>h (e.symm.trans h2)),if_pos h2]
   ·rw [if_neg h2,if_neg h2]
theorem wNC {l:List Int} (hl:l.length <= 1000) (hd:l.Nodup):wDu l=some false:=by
 unfold wDu
 rw [wEN (by omega)]
 have key:∀ (m k:Nat) (t:List (Int × Bool)),k + m=l.length->(∀ n,wEW t n false=decide (n ∈ l.take k)) ->
   jn (forN (fun k20 l17 =>
  (idx l (↑k20:Int)).bind fun x41 =>
  if (wEW l17 x41 false)=true then
   esc (some true)
  else
   some (.inl (wGS l17 x41 true))) m k t) (fun _=>some false)=some false:=by
  intro m
  induction m with
  | zero=>intro k t _ _;rfl
  | succ m ih =>
   intro k t hk ht
   have hlt:k < l.length:=by omega
   have c:gd l k ∉ l.take k:=fun c=>by
    rw [<- kR k l,wMJ hlt] at hd
    exact (np.1 hd).2.2 _ c _ (by simp) rfl
   rw [forN,wAu hlt,hM,ht,if_neg (by simpa using c)]
   simp only
   refine ih (k + 1) _ (by omega) fun n=>?_
   unfold wEW at ht ⊢
   rw [wJT,wDq hlt]
   by_cases e:n=gd l k
   ·rw [if_pos e];simp [e]
   ·rw [if_neg e,ht];simp [e]
 exact key l.length 0 [] (by omega) (fun n=>by simp [wEW,wLg])
theorem wFZ {n lo hi:Int} (h1:lo <= n) (h2:n <= hi):wEE n lo hi=some true:=by
 unfold wEE
 rw [if_pos h1]
 simp [h2]
theorem wJU {l:List (List Int)} {f:List Int->Option Bool} (hn:l.length <= 1000) (h:∀ a ∈ l,f a=some true):wCy l f=some true:=by
 unfold wCy
 rw [wEA (by omega) fun k hk=>?_]
 ·rfl
 ·rw [wAu hk,hM,h _ (wAe hk)]
  rfl
theorem wJV {l:List Int} {f:Int->Option Bool} (hn:l.length <= 1000) (h:∀ a ∈ l,f a=some true):wCO l f=some true:=by
 unfold wCO
 rw [wEA (by omega) fun k hk=>?_]
 ·rfl
 ·rw [wAu hk,hM,h _ (wAe hk)]
  rfl
structure wND (r:wAP):Prop where
 g:wLM r
 laps:1 <= r.Laps/\r.Laps <= 20
 le:∀ l ∈ r.Times,(l.length:Int) <= r.Laps
 bib:∀ b ∈ r.Bibs,1 <= b/\b <= 999
theorem wKl {r:wAP} (G:wND r):wCb r=some 0:=by
  unfold wCb
  have h1:=G.laps;have h2:=G.g.n;have h3:=G.g.t
  rw [wFZ h1.1 h1.2,hM,if_pos rfl,if_neg (by omega),if_pos (by omega),wJU (by omega) fun X hX=>?_,hM,if_pos rfl,wJV (by omega) fun b hb=>?_,hM,if_pos rfl,wJU (by omega) fun X hX=>?_,hM,if_pos rfl,wNC (by omega) G.g.one,hM,if_neg (by decide),wEA (by omega) fun k hk=>?_]
  · rfl
  · have hXm:=wAe hk
    rw [wAu hk,hM]
    have hl:=G.g.len _ hXm
    have hpw:=G.g.inc _ hXm
    generalize gd r.Times k=X at hl hpw
    have hle:((X.length:Int) - 1).toNat <= 9223372036854775807:=by omega
    have key:wEs 1 (X.length:Int) (fun k132 (_:Unit) =>
                    (idx X (1 + ↑k132:Int)).bind fun x155 =>
                    (idx X (w64 ((1 + ↑k132:Int) - 1))).bind fun x163 =>
                    if x155 <= x163 then
                      esc (esc (some 4))
                    else
                      (some (.inl ()):Option (Unit ⊕ (Unit ⊕ Int)))) ()=some (.inl ()):=by
      unfold wEs
      rw [if_pos (by omega)]
      have:=wIp (S:=Unit) (B:=Unit ⊕ Int) (body:=fun k132 (_:Unit) =>
                    (idx X (1 + ↑k132:Int)).bind fun x155 =>
                    (idx X (w64 ((1 + ↑k132:Int) - 1))).bind fun x163 =>
                    if x155 <= x163 then
                      esc (esc (some 4))
                    else
                      some (.inl ())) (fun _=>()) ((X.length:Int) - 1).toNat 0 fun j _ hj=>by
        have e1:(1 + (j:Int))=((j + 1:Nat):Int):=by omega
        rw [wAT (by omega) (by omega),e1,show ((j + 1:Nat):Int) - 1=(j:Int) by omega,wAu (by omega),hM,wAu (by omega),hM,if_neg]
        have:=nA.1 hpw j (j + 1) (by omega) (by omega) (by omega)
        have a1:=wCX (xs:=X) (k:=j) (by omega)
        have a2:=wCX (xs:=X) (k:=j + 1) (by omega)
        rw [nk (by omega)] at a1 a2
        rw [<- na a1,<- na a2]
        omega
      exact this
    rw [key]
    rfl
  · have:=G.g.len X hX
    have hr:=G.g.pos X hX
    unfold wCD
    rw [wJV (by omega) fun a ha=>?_]
    · rfl
    · unfold wBb
      have:=hr a ha
      rw [wFZ (by omega) (by omega)]
      rfl
  · have:=G.bib b hb
    unfold wCC
    rw [wFZ this.1 this.2]
    rfl
  · have:=G.le X hX
    unfold wCB
    simp only [Option.some.injEq,decide_eq_true_eq]
    exact this
theorem wIH {r:wAP} (G:wND r) {p:wAL} {A:List wAH} (h:wCv r=some (p,A)):wCG r=some (A,0):=by
 unfold wCG
 rw [wKl G,hM,if_pos rfl,h];rfl
end Go.Proofs.YtnbcoenjobdplaaGreat
namespace Go.Proofs.YtnbcoenjobdplaaGreat
open Go.KL
theorem wLN {r:wAP} (G:wND r) {p:wAL} {A:List wAH} (h:wCv r=some (p,A)):wDA r=some (p.done,0):=by
 unfold wDA
 rw [wKl G,hM,if_pos rfl,h];rfl
end Go.Proofs.YtnbcoenjobdplaaGreat
namespace Go.Proofs.YtnbcoenjobdplaaGreat
open Go.KL
theorem wLO {r:wAI} (g:wFY r):wND (wDN r):=by
 have hn:=g.n;have hs:=g.start
 have hc:=g.rules.n;have hl:=g.rules.laps
 obtain ⟨L,hL⟩:=Int.eq_ofNat_of_zero_le (show 0 <= r.Rules.Laps by omega)
 have hL5:L <= 5:=by omega
 have e:∀ l ∈ (wDN r).Times,∃ t,t ∈ r.Teams/\l=wEP r.Rules t.Legs r.Start:=fun l h=>by
  obtain ⟨t,ht,e⟩:=nP.1 h
  exact ⟨t,ht,e.symm⟩
 have hlen:∀ l ∈ (wDN r).Times,l.length <= r.Rules.Classes.length * L:=fun l h=>by
  obtain ⟨t,ht,rfl⟩:=e l h
  have gt:=g.team t ht
  exact nj (wIb hL t.Legs r.Start gt.leg) (Nat.mul_le_mul_right L gt.legs)
 have h20:r.Rules.Classes.length * L <= 20:=nj (kT hc.2 hL5) (by omega)
 have hLaps:(wDN r).Laps=((r.Rules.Classes.length * L:Nat):Int):=by
  show (r.Rules.Classes.length:Int) * r.Rules.Laps=_
  rw [hL];simp
 have h1:1 <= r.Rules.Classes.length * L:=Nat.mul_pos hc.1 (by omega)
 refine ⟨⟨?_,?_,fun l h=>by have:=hlen l h;omega,fun l h=>?_,fun l h x hx=>?_,g.bibs⟩,⟨by rw [hLaps];omega,by rw [hLaps];omega⟩,fun l h=>by rw [hLaps];have:=hlen l h;omega,fun b hb=>?_⟩
 ·show (r.Teams.map _).length <= 60
  rw [nH];omega
 ·show (after r).length=(r.Teams.map _).length
  unfold after
  rw [nH,nH]
 ·obtain ⟨t,ht,rfl⟩:=e l h
  exact (wIr g.rules t.Legs r.Start (g.team t ht).leg).1
 ·obtain ⟨t,ht,rfl⟩:=e l h
  have:=(wIr g.rules t.Legs r.Start (g.team t ht).leg).2 x hx
  have:=(g.team t ht).legs
  omega
 ·obtain ⟨t,ht,rfl⟩:=nP.1 hb
  exact (g.team t ht).bib
def un (b:List Bool):Int:=if wGa b < 5 then 8 - (b.length:Int) else 0
def unB:List (List Bool)->Int
 | []=>0
 | b :: l=>un b + unB l
def unT:List wAA->Int
 | []=>0
 | l :: r=>unB l.Bouts + unT r
theorem wKm {b:List Bool} (h:okB b):0 <= un b/\un b <= 3:=by
 have:=h.1;have:=h.2.1
 unfold un
 split <;> omega
theorem wKn (b:List Bool):∀ l:List (List Bool),unB (l ++ [b])=unB l + un b
 | []=>by simp [unB]
 | a :: l=>by rw [nu,unB,unB,wKn b l];omega
theorem wKo (b:wAA):∀ l:List wAA,unT (l ++ [b])=unT l + unB b.Bouts
 | []=>by simp [unT]
 | a :: l=>by rw [nu,unT,unT,wKo b l];omega
theorem wII:∀ {l:List (List Bool)},(∀ b ∈ l,okB b)->0 <= unB l/\unB l <= 3 * (l.length:Int)
 | [],_=>by simp [unB]
 | a :: l,h=>by
  have h1:=wKm (h a (by simp))
  have h2:=wII (l:=l) fun b hb=>h b (by simp [hb])
  rw [unB,nI]
  omega
theorem wKp {p:wAJ} (gp:wEO p) {t:wAD} {l:wAA} (g:wFN p t l):l.Bouts.length <= 4:=by
 have:=g.bouts;have:=g.le;have:=gp.laps
 omega
theorem wIJ {p:wAJ} (gp:wEO p) {t:wAD}:∀ {l:List wAA},(∀ a ∈ l,wFN p t a)->0 <= unT l/\unT l <= 12 * (l.length:Int)
 | [],_=>by simp [unT]
 | a :: l,h=>by
  have ga:=h a (by simp)
  have h1:=wII ga.ok
  have h3:=wKp gp ga
  have h2:=wIJ gp (l:=l) fun b hb=>h b (by simp [hb])
  rw [unT,nI]
  omega
theorem wMP {p:wAJ} (gp:wEO p) {t:wAD} (g:wLG p t):wCE t=some (unT t.Legs):=by
 unfold wCE
 have hl:=g.legs;have hc:=gp.n
 rw [wCu (S:=Int) (n:=t.Legs.length) (fun k=>unT (t.Legs.take k)) (s0:=0) rfl (by omega) fun k hk=>?_]
 ·rw [hM,nE]
 ·have gl:=g.leg _ (wAe hk)
  have h4:=wKp gp gl
  have hr:=wIJ gp (l:=t.Legs.take k) fun a ha=>g.leg a (ni ha)
  rw [nY] at hr
  rw [wAu hk,hM]
  rw [wCu (S:=Int) (n:=(gd t.Legs k).Bouts.length) (fun j=>unT (t.Legs.take k) + unB ((gd t.Legs k).Bouts.take j)) (s0:=unT (t.Legs.take k)) (by simp [unB]) (by omega) fun j hj=>?_]
  ·rw [hM,nE,wDq hk,wKo]
  ·have ho:=gl.ok _ (wAe hj)
   have hb:=wII (l:=(gd t.Legs k).Bouts.take j) fun b hb=>gl.ok b (ni hb)
   have hu:=wKm ho
   rw [nY] at hb
   rw [wAu hj,hM,wKA ho,hM]
   show (if _=(⟨0,0,0⟩:wAW) then _ else some (w64 (_ + un (gd (gd t.Legs k).Bouts j))))=_
   rw [wDq hj,wKn]
   by_cases e:(⟨((gd (gd t.Legs k).Bouts j).length:Int) - 5,5 - (wGa (gd (gd t.Legs k).Bouts j):Int),un (gd (gd t.Legs k).Bouts j)⟩:wAW)=⟨0,0,0⟩
   ·have e3:un (gd (gd t.Legs k).Bouts j)=0:=congrArg wAW.Unused e
    refine (if_pos e).trans ?_
    rw [e3,Int.add_zero]
   ·refine (if_neg e).trans ?_
    rw [wAT (by omega) (by omega),Int.add_assoc]
theorem cmpI (x y:Int):wAr x y=some (if x < y then -1 else if y < x then 1 else 0):=by
 unfold wAr wCz
 simp only [not_true_eq_false,decide_false,hM,kG,if_false]
 split
 ·rfl
 ·split <;> rfl
theorem orI (x y:Int):wCq [x,y]=some (if x=0 then y else x):=by
 unfold wCq
 rw [wEN (by simp)]
 show jn (forN _ 2 0 ()) _=_
 have i0:idx [x,y] ((0:Nat):Int)=some x:=rfl
 have i1:idx [x,y] ((0 + 1:Nat):Int)=some y:=rfl
 simp only [forN,i0,i1,hM]
 by_cases c:x=0
 ·simp only [if_pos c]
  by_cases d:y=0
  ·simp only [if_pos d,d];rfl
  ·simp only [if_neg d];rfl
 ·simp only [if_neg c];rfl
def lt2 {α:Type} (k1 k2:α->Int) (a b:α):Prop:=k1 a < k1 b \/ k1 a=k1 b/\k2 a < k2 b
instance {α:Type} (k1 k2:α->Int) (a b:α):Decidable (lt2 k1 k2 a b):=by unfold lt2;exact inferInstance
def wOW {α:Type} (k1 k2:α->Int) (a b:α):Int:=if k1 a < k1 b then -1 else if k1 b < k1 a then 1 else if k2 a < k2 b then -1 else if k2 b < k2 a then 1 else 0
theorem wOz {α:Type} {h:α × α->Option Int} (k1 k2:α->Int) (hh:∀ a b,h (a,b)=some (wOW k1 k2 a b)) {l:List α} (hl:l.length <= 100000) (nd:(l.map k2).Nodup):∃ m,wJr h l=some m/\m.Perm l/\m.Pairwise (lt2 k1 k2):=by
 have lt:∀ a b:α,ltB h a b=decide (lt2 k1 k2 a b):=fun a b=>by
  unfold ltB lt2
  rw [hh]
  unfold wOW
  by_cases c1:k1 a < k1 b
  ·simp [c1]
  ·by_cases c2:k1 b < k1 a
   ·simp [c1,c2];omega
   ·have c3:k1 a=k1 b:=by omega
    by_cases c4:k2 a < k2 b
    ·simp [c3,c4]
    ·by_cases c5:k2 b < k2 a <;> simp [c3,c4,c5]
 have one:∀ x ∈ l,∀ y ∈ l,k2 x=k2 y->x=y:=fun x hx y hy e=>by
  obtain ⟨i,hi,ei⟩:=nB hx
  obtain ⟨j,hj,ej⟩:=nB hy
  have pw:=nA.1 (nK.1 nd)
  rcases ns i j with c | c | c
  ·have:=pw i j (by simpa using hi) (by simpa using hj) c
   rw [nG,nG,ei,ej] at this
   exact absurd e this
  ·subst c;rw [<- ei,<- ej]
  ·have:=pw j i (by simpa using hj) (by simpa using hi) c
   rw [nG,nG,ei,ej] at this
   exact absurd e.symm this
 have C:Cmp h l:=by
  refine ⟨by omega,fun x _ y _=>by rw [hh];rfl,fun x _=>by rw [lt];simp [lt2],fun x _ y _ w _ a b=>?_,fun x _ y _ w _ a b=>?_,fun x hx y hy a b=>?_⟩
  ·rw [lt] at a b ⊢
   simp only [decide_eq_true_iff] at a b ⊢
   simp only [lt2] at a b ⊢
   omega
  ·rw [lt] at a b ⊢
   simp only [decide_eq_false_iff_not] at a b ⊢
   simp only [lt2] at a b ⊢
   omega
  ·rw [lt] at a b
   simp only [decide_eq_false_iff_not] at a b
   simp only [lt2] at a b
   exact one x hx y hy (by omega)
 have hp:=kA l fun x y=>!ltB h y x
 have so:=nm (le:=fun x y:α=>!ltB h y x) (fun a b c h1 h2=>by
   rw [lt] at h1 h2 ⊢
   simp only [nX,decide_eq_false_iff_not] at h1 h2 ⊢
   simp only [lt2] at h1 h2 ⊢
   omega) (fun a b=>by
   rw [lt,lt]
   simp only [Bool.or_eq_true,nX,decide_eq_false_iff_not]
   simp only [lt2]
   omega) l
 refine ⟨_,wKW C,hp,?_⟩
 generalize l.mergeSort (fun x y=>!ltB h y x)=m at hp so
 have nd2:=(hp.map k2).nodup_iff.2 nd
 refine (so.and (kK.1 (nK.1 nd2))).imp fun {a b} h=>?_
 obtain ⟨h1,h2⟩:=h
 rw [lt] at h1
 simp only [nX,decide_eq_false_iff_not] at h1 ⊢
 simp only [lt2] at h1 ⊢
 omega
theorem wIc {α:Type} {k1 k2:α->Int} {l m:List α} (hl:l.Pairwise (lt2 k1 k2)) (hm:m.Pairwise (lt2 k1 k2)) (hp:l.Perm m):l=m :=
 List.Perm.eq_of_pairwise (le:=lt2 k1 k2) (fun a b _ _ h1 h2=>by unfold lt2 at h1 h2;omega) hl hm hp
theorem cmpR1 (a b:wAB):wBN a b=some (wOW (·.Time) (·.Bib) a b):=by
 unfold wBN wOW
 rw [cmpI,hM,cmpI,hM,orI,hM]
 by_cases c1:a.Time < b.Time
 ·simp [c1]
 ·by_cases c2:b.Time < a.Time
  ·simp [c1,c2]
  ·simp only [c1,c2,if_false,if_true]
theorem cmpR2 (M:List (Int × Int)) (a b:wAB):wBO a b M=some (wOW (fun x=>-(wEW M x.Bib 0)) (·.Bib) a b):=by
 unfold wBO wOW
 rw [cmpI,hM,cmpI,hM,orI,hM]
 simp only
 generalize wEW M a.Bib 0=x
 generalize wEW M b.Bib 0=y
 by_cases c1:y < x
 ·rw [if_pos c1,if_pos (show -x < -y by omega)];simp
 ·by_cases c2:x < y
  ·rw [if_neg c1,if_pos c2,if_neg (show ¬ -x < -y by omega),if_pos (show -y < -x by omega)];simp
  ·rw [if_neg c1,if_neg c2,if_neg (show ¬ -x < -y by omega),if_neg (show ¬ -y < -x by omega)];simp
end Go.Proofs.YtnbcoenjobdplaaGreat
namespace Go.Proofs.YtnbcoenjobdplaaGreat
open Go.KL
structure Rc where
 bib:Int
 fin:Bool
 time:Int
 done:Int
instance:Inhabited Rc:=⟨⟨0,false,0,0⟩⟩
def wJW (r:wAI) (A:List wAH) (D:List Int) (k:Nat):Rc :=
 ⟨(gd r.Teams k).Bib,!(A.any fun o=>decide (o.Bib=(gd r.Teams k).Bib)) && decide (((gd (after r) k).length:Int)=(wDN r).Laps),gd (gd (after r) k) ((wDN r).Laps - 1).toNat + unT (gd r.Teams k).Legs * r.Rules.Unused,gd D k⟩
def wFy (r:wAI) (A:List wAH) (D:List Int):List Rc:=(nZ r.Teams.length).map (wJW r A D)
def finR (x:Rc):wAB:=⟨x.bib,0,x.time⟩
def othR (x:Rc):wAB:=⟨x.bib,0,0⟩
def wJX (l:List Rc):List wAB:=(l.filter fun x=>x.fin).map finR
def wKq (l:List Rc):List wAB:=(l.filter fun x=>!x.fin).map othR
def wKF (l:List Rc):List (Int × Int):=l.foldl (fun m x=>wGS m x.bib x.done) []
theorem wLP (l:List Rc) (x:Rc):wKF (l ++ [x])=wGS (wKF l) x.bib x.done:=by unfold wKF;rw [kc];rfl
theorem wMQ (r:wAI) (A:List wAH) (D:List Int):(wFy r A D).map (·.bib)=r.Teams.map (·.Bib):=by
 unfold wFy
 rw [ny]
 refine List.ext_getElem (by simp) fun i h1 h2=>?_
 simp only [nG,ka,Function.comp,wJW]
 rw [wCk (by simpa using h2)]
theorem wFa (r:wAI) (A:List wAH) (D:List Int):(wFy r A D).length=r.Teams.length:=by simp [wFy]
theorem wMR (r:wAI) (A:List wAH) (D:List Int) {k:Nat} (hk:k < r.Teams.length):(wFy r A D).take (k + 1)=(wFy r A D).take k ++ [wJW r A D k]:=by
 unfold wFy
 rw [<- kW,<- kW,List.take_range,List.take_range,Nat.min_eq_left (by omega),Nat.min_eq_left (by omega),List.range_succ,nQ]
 rfl
theorem wMS (l:List Rc) (x:Rc):wJX (l ++ [x])=if x.fin=true then wJX l ++ [finR x] else wJX l:=by
 unfold wJX
 rw [kI]
 by_cases h:x.fin=true <;> simp [h]
theorem wMT (l:List Rc) (x:Rc):wKq (l ++ [x])=if x.fin=true then wKq l else wKq l ++ [othR x]:=by
 unfold wKq
 rw [kI]
 by_cases h:x.fin=true <;> simp [h]
theorem wGw (l:List Rc):(wJX l).length <= l.length:=by
 unfold wJX;rw [nH];exact nV _ _
theorem wGx (l:List Rc):(wKq l).length <= l.length:=by
 unfold wKq;rw [nH];exact nV _ _
theorem wNE (l:List Rc):(wJX l).map (·.Bib)=(l.filter fun x=>x.fin).map (·.bib):=by unfold wJX;rw [ny];rfl
theorem wNF (l:List Rc):(wKq l).map (·.Bib)=(l.filter fun x=>!x.fin).map (·.bib):=by unfold wKq;rw [ny];rfl
theorem wPA {l:List Rc} (nd:(l.map (·.bib)).Nodup):((wJX l).map (·.Bib)).Nodup:=by
 rw [wNE];exact nd.sublist (kB.map _)
theorem wPB {l:List Rc} (nd:(l.map (·.bib)).Nodup):((wKq l).map (·.Bib)).Nodup:=by
 rw [wNF];exact nd.sublist (kB.map _)
def plc (F:List wAB):Nat->Int
 | 0=>1
 | i + 1=>if (gd F (i + 1)).Time=(gd F i).Time then plc F i else (i:Int) + 2
def wEB (F:List wAB):List wAB:=(nZ F.length).map fun i=>⟨(gd F i).Bib,plc F i,(gd F i).Time⟩
theorem wDP (F:List wAB):(wEB F).length=F.length:=by simp [wEB]
theorem wJY {F:List wAB} {i:Nat} (h:i < F.length):gd (wEB F) i=⟨(gd F i).Bib,plc F i,(gd F i).Time⟩:=by
 unfold wEB
 rw [wCk (by simpa using h)]
 simp
theorem wJZ (F:List wAB):∀ i,1 <= plc F i/\plc F i <= i + 1
 | 0=>by simp [plc]
 | i + 1=>by
  have:=wJZ F i
  rw [plc]
  split <;> omega
def pB:Nat->List wAB->Option (List wAB):=fun k550 l549 =>
        (chk (↑k550:Int) l549.length).bind fun _ =>
        if 0 < (↑k550:Int) then
          (chk (↑k550:Int) (nD l549 k550 (⟨(gd l549 k550).Bib,(↑(k550 + 1):Int),(gd l549 k550).Time⟩:wAB)).length).bind fun _ =>
          (chk (w64 ((↑k550:Int) - 1)) (nD l549 k550 (⟨(gd l549 k550).Bib,(↑(k550 + 1):Int),(gd l549 k550).Time⟩:wAB)).length).bind fun _ =>
          if ((gd (nD l549 k550 (⟨(gd l549 k550).Bib,(↑(k550 + 1):Int),(gd l549 k550).Time⟩:wAB)) k550).Time)=((gd (nD l549 k550 (⟨(gd l549 k550).Bib,(↑(k550 + 1):Int),(gd l549 k550).Time⟩:wAB)) (w64 ((↑k550:Int) - 1)).toNat).Time) then
            some (nD (nD l549 k550 (⟨(gd l549 k550).Bib,(↑(k550 + 1):Int),(gd l549 k550).Time⟩:wAB)) k550 (⟨(gd (nD l549 k550 (⟨(gd l549 k550).Bib,(↑(k550 + 1):Int),(gd l549 k550).Time⟩:wAB)) k550).Bib,(gd (nD l549 k550 (⟨(gd l549 k550).Bib,(↑(k550 + 1):Int),(gd l549 k550).Time⟩:wAB)) (w64 ((↑k550:Int) - 1)).toNat).Place,(gd (nD l549 k550 (⟨(gd l549 k550).Bib,(↑(k550 + 1):Int),(gd l549 k550).Time⟩:wAB)) k550).Time⟩:wAB))
          else
            some (nD l549 k550 (⟨(gd l549 k550).Bib,(↑(k550 + 1):Int),(gd l549 k550).Time⟩:wAB))
        else
          some (nD l549 k550 (⟨(gd l549 k550).Bib,(↑(k550 + 1):Int),(gd l549 k550).Time⟩:wAB))
theorem wMU {α:Type} [Inhabited α] {l:List α} {i k:Nat} {x:α} (hi:i < l.length) (hk:k < l.length):gd (l.set i x) k=if k=i then x else gd l k:=by
 have h1:=wCX (xs:=l.set i x) (k:=k) (by rw [nW];exact hk)
 rw [List.getElem?_set] at h1
 by_cases e:i=k
 ·subst e
  rw [if_pos rfl,if_pos hi] at h1
  rw [if_pos rfl];exact (na h1).symm
 ·rw [if_neg e,wCX hk] at h1
  rw [if_neg (fun h=>e h.symm)];exact (na h1).symm
theorem wMV {F:List wAB} (hF:F.length <= 1000):wBc 0 (↑F.length:Int) pB F=some (wEB F):=by
 obtain ⟨s,e,h1,h2⟩:=wDe (body:=pB) (n:=F.length) (s0:=F) (fun k s=>s.length=F.length/\∀ i,i < F.length->gd s i=if i < k then ⟨(gd F i).Bib,plc F i,(gd F i).Time⟩ else gd F i) hF ⟨rfl,fun i hi=>by rw [if_neg (by omega)]⟩ (fun k s hk ⟨hl,hs⟩=>by
  have hkk:gd s k=gd F k:=by rw [hs k hk,if_neg (by omega)]
  unfold pB
  rw [wEe (by omega) (by omega),hM,hkk]
  have g1:∀ x i,i < F.length->gd (s.set k x) i=if i=k then x else gd s i:=fun x i hi=>wMU (by omega) (by omega)
  by_cases c:0 < k
  ·have gk:∀ x,gd (s.set k x) k=x:=fun x=>by rw [g1 _ k hk,if_pos rfl]
   have gp:∀ x,gd (s.set k x) (k - 1)=gd s (k - 1):=fun x=>by rw [g1 _ (k - 1) (by omega),if_neg (by omega)]
   have ek:(w64 ((k:Int) - 1)).toNat=k - 1:=by rw [wAT (by omega) (by omega)];omega
   have hk1:gd s (k - 1)=⟨(gd F (k - 1)).Bib,plc F (k - 1),(gd F (k - 1)).Time⟩:=by rw [hs _ (by omega),if_pos (by omega)]
   rw [if_pos (by omega),wEe (by omega) (by rw [nW];omega),hM,wEe (by rw [wAT (by omega) (by omega)];omega) (by rw [wAT (by omega) (by omega),nW];omega),hM,ek,gk,gp,hk1]
   simp only
   have pk:plc F k=if (gd F k).Time=(gd F (k - 1)).Time then plc F (k - 1) else (k:Int) + 1:=by
    obtain ⟨m,rfl⟩:∃ m,k=m + 1:=⟨k - 1,by omega⟩
    rw [plc,Nat.add_sub_cancel]
    split
    ·rfl
    ·omega
   by_cases d:(gd F k).Time=(gd F (k - 1)).Time
   ·rw [if_pos d]
    refine ⟨_,rfl,by simp [hl],fun i hi=>?_⟩
    rw [wMU (by rw [nW];omega) (by rw [nW];omega),g1 _ i hi]
    by_cases ei:i=k
    ·subst ei
     rw [if_pos rfl,if_pos (by omega),pk,if_pos d]
    ·rw [if_neg ei,if_neg ei,hs i hi]
     by_cases c2:i < k
     ·rw [if_pos c2,if_pos (by omega)]
     ·rw [if_neg c2,if_neg (by omega)]
   ·rw [if_neg d]
    refine ⟨_,rfl,by simp [hl],fun i hi=>?_⟩
    rw [g1 _ i hi]
    by_cases ei:i=k
    ·subst ei
     rw [if_pos rfl,if_pos (by omega),pk,if_neg d]
     congr 1
    ·rw [if_neg ei,hs i hi]
     by_cases c2:i < k
     ·rw [if_pos c2,if_pos (by omega)]
     ·rw [if_neg c2,if_neg (by omega)]
  ·rw [if_neg (by omega)]
   have k0:k=0:=by omega
   subst k0
   refine ⟨_,rfl,by simp [hl],fun i hi=>?_⟩
   rw [g1 _ i hi]
   by_cases ei:i=0
   ·subst ei
    rw [if_pos rfl,if_pos (by omega)]
    rfl
   ·rw [if_neg ei,hs i hi,if_neg (by omega),if_neg (by omega)])
 rw [e]
 congr 1
 refine wNY (by rw [h1,wDP]) fun i hi=>?_
 rw [h2 i (by omega),if_pos (by omega),wJY (by omega)]
abbrev RS2:=List (Int × Int) × List wAB × List wAB
def rsB (r:wAI) (L:Int) (x99:List Int) (y149:List (Int × Bool)):Nat->RS2->Option RS2:=fun k258 (l247,l250,l254) =>
        (idx r.Teams (↑k258:Int)).bind fun x293 =>
        (chk (↑k258:Int) x99.length).bind fun _ =>
        if (wEW y149 x293.Bib false)=true then
          (app 24 l254 [(⟨x293.Bib,0,0⟩:wAB)]).bind fun x346 =>
          some ((wGS l247 x293.Bib (gd x99 k258)),l250,x346)
        else
          (idx (after r) (↑k258:Int)).bind fun x364 =>
          if (↑x364.length:Int) < L then
            (app 24 l254 [(⟨x293.Bib,0,0⟩:wAB)]).bind fun x390 =>
            some ((wGS l247 x293.Bib (gd x99 k258)),l250,x390)
          else
            (idx x364 (w64 (L - 1))).bind fun x434 =>
            (wCE x293).bind fun x441 =>
            (app 24 l250 [(⟨x293.Bib,0,w64 (x434 + (w64 (x441 * r.Rules.Unused)))⟩:wAB)]).bind fun x456 =>
            some ((wGS l247 x293.Bib (gd x99 k258)),x456,l254)
theorem wLQ {r:wAI} (g:wFY r):wAy r =
      (wBM ⟨r,after r⟩).bind fun x46 =>
      (wCG x46).bind fun (x83,_) =>
      (wDA x46).bind fun (x99,_) =>
      (wBc 0 (↑x83.length:Int) (fun k144 l141 =>
        (chk (↑k144:Int) x83.length).bind fun _ =>
        some (wGS l141 ((gd x83 k144).Bib) true)) ([]:List (Int × Bool))).bind fun y149 =>
      (wBc 0 (↑r.Teams.length:Int) (rsB r x46.Laps x99 y149) (([]:List (Int × Int)),[],[])).bind fun (y263,y264,y265) =>
      (wAX y264 (fun x=>wBN x.1 x.2)).bind fun x508 =>
      (wAX y265 (fun x=>wBO x.1 x.2 y263)).bind fun x532 =>
      (wBc 0 (↑x508.length:Int) pB x508).bind fun y555 =>
      (app 24 y555 x532).bind fun x615 =>
      some (x615,(0:Int)):=by
  unfold wAy
  rw [wIq g,hM]
  rfl
theorem wMW {r:wAI} (g:wFY r):wBM ⟨r,after r⟩=some (wDN r):=wMK g
theorem wJa:∀ (A:List wAH) (m:List (Int × Bool)) (b:Int),wEW (A.foldl (fun m o=>wGS m o.Bib true) m) b false=((A.any fun o=>decide (o.Bib=b)) || wEW m b false)
 | [],_,_=>by simp
 | o :: A,m,b=>by
  rw [List.foldl_cons,wJa A,kU]
  unfold wEW
  rw [wJT]
  by_cases c:b=o.Bib
  ·rw [if_pos c,decide_eq_true c.symm];simp
  ·rw [if_neg c,decide_eq_false (fun h=>c h.symm)];simp
theorem wNG {A:List wAH} (hA:A.length <= 100000):(wBc 0 (↑A.length:Int) (fun k144 l141 =>
        (chk (↑k144:Int) A.length).bind fun _ =>
        some (wGS l141 ((gd A k144).Bib) true)) ([]:List (Int × Bool)))=some (A.foldl (fun m o=>wGS m o.Bib true) []):=by
  rw [wCu (S:=List (Int × Bool)) (n:=A.length) (fun k=>(A.take k).foldl (fun m o=>wGS m o.Bib true) []) (s0:=[]) rfl (by omega) fun k hk=>?_]
  · rw [nE]
  · rw [wEe (by omega) (by omega),hM,wDq hk,kc];rfl
structure wOX (rs:List Rc) (F O:List wAB):Prop where
 fp:F.Perm (wJX rs)
 fo:F.Pairwise (lt2 (·.Time) (·.Bib))
 op:O.Perm (wKq rs)
 oo:O.Pairwise (lt2 (fun x=>-(wEW (wKF rs) x.Bib 0)) (·.Bib))
theorem wHR {r:wAI} (g:wFY r) {p:wAL} {A:List wAH} {τ:Nat->Option Int} (e:wCv (wDN r)=some (p,A)) (R:wNz (wDN r) p.done A τ) :
  ∃ F O,wAy r=some (wEB F ++ O,0)/\wOX (wFy r A p.done) F O:=by
 have W:=wLO g
 have hn:=g.n
 have hb:(wDN r).Bibs.length=r.Teams.length:=by show (r.Teams.map _).length=_;rw [nH]
 have hal:(after r).length=r.Teams.length:=by unfold after;rw [nH]
 have nd:((wFy r A p.done).map (·.bib)).Nodup:=by rw [wMQ];exact g.bibs
 rw [wLQ g,wMW g,hM,wIH W e,hM]
 simp only
 rw [wLN W e,hM]
 simp only
 rw [wNG R.al,hM]
 rw [wCu (S:=RS2) (n:=r.Teams.length) (fun k=>(wKF ((wFy r A p.done).take k),wJX ((wFy r A p.done).take k),wKq ((wFy r A p.done).take k))) (s0:=([],[],[])) rfl (by omega) fun k hk=>?_]
 ·rw [hM]
  simp only
  rw [<- wFa r A p.done,nE]
  have hlen:=wFa r A p.done
  have hfl:=wGw (wFy r A p.done)
  have hol:=wGx (wFy r A p.done)
  obtain ⟨F,e1,f1,f2⟩:=wOz (h:=fun x=>wBN x.1 x.2) (·.Time) (·.Bib) (fun a b=>cmpR1 a b) (l:=wJX (wFy r A p.done)) (by omega) (wPA nd)
  obtain ⟨O,e2,o1,o2⟩:=wOz (h:=fun x=>wBO x.1 x.2 (wKF (wFy r A p.done))) (fun x=>-(wEW (wKF (wFy r A p.done)) x.Bib 0)) (·.Bib) (fun a b=>cmpR2 _ a b) (l:=wKq (wFy r A p.done)) (by omega) (wPB nd)
  have lf:=f1.length_eq
  have lo:=o1.length_eq
  unfold wAX
  rw [e1,hM,e2,hM,wMV (by omega),hM,wDG (by rw [wDP];omega),hM]
  exact ⟨F,O,rfl,f1,f2,o1,o2⟩
 ·have gt:=g.team _ (wAe hk)
  have hfl:=wGw ((wFy r A p.done).take k)
  have hol:=wGx ((wFy r A p.done).take k)
  rw [nY,wFa] at hfl hol
  unfold rsB
  simp only
  rw [wAu hk,hM,wEe (by omega) (by rw [R.dl,hb];omega),hM,wJa,wMR r A p.done hk,wLP,wMS,wMT]
  have m0:wEW ([]:List (Int × Bool)) (gd r.Teams k).Bib false=false:=rfl
  rw [m0,Bool.or_false]
  by_cases c:(A.any fun o=>decide (o.Bib=(gd r.Teams k).Bib))=true
  ·have nf:¬ (wJW r A p.done k).fin=true:=by unfold wJW;simp only [c];simp
   rw [if_pos c,wDG (by simp only [nI,nU];omega),hM,if_neg nf,if_neg nf]
   rfl
  ·rw [if_neg c,wAu (by omega),hM]
   have hle:=W.le (gd (after r) k) (wAe (l:=(wDN r).Times) (k:=k) (show k < (after r).length by omega))
   have hlp:=W.laps
   have c':(A.any fun o=>decide (o.Bib=(gd r.Teams k).Bib))=false:=by simpa using c
   by_cases d:((gd (after r) k).length:Int) < (wDN r).Laps
   ·have nf:¬ (wJW r A p.done k).fin=true:=by
     unfold wJW
     simp only [Bool.and_eq_true,decide_eq_true_eq]
     omega
    rw [if_pos d,wDG (by simp only [nI,nU];omega),hM,if_neg nf,if_neg nf]
    rfl
   ·have yf:(wJW r A p.done k).fin=true:=by
     unfold wJW
     simp only [c',Bool.not_false,Bool.true_and,decide_eq_true_eq]
     omega
    have et:gd (after r) k ∈ (wDN r).Times:=wAe (l:=(wDN r).Times) (k:=k) (show k < (after r).length by omega)
    have hidx:((wDN r).Laps - 1).toNat < (gd (after r) k).length:=by omega
    have hpos:=W.g.pos _ et _ (wAe hidx)
    have hu:=wIJ g.rules gt.leg
    have hlg:=gt.legs;have hc4:=g.rules.n;have hun:=g.rules.unused
    have hm0:0 <= unT (gd r.Teams k).Legs * r.Rules.Unused:=kD hu.1 hun.1
    have hm1:unT (gd r.Teams k).Legs * r.Rules.Unused <= 48 * 6000:=kE (by omega) hun.2 hun.1 (by omega)
    rw [if_neg d,wAT (x:=(wDN r).Laps - 1) (by omega) (by omega),show (wDN r).Laps - 1=((((wDN r).Laps - 1).toNat:Nat):Int) by omega,wAu hidx,hM,wMP g.rules gt,hM,wAT (x:=unT (gd r.Teams k).Legs * r.Rules.Unused) (by omega) (by omega),wAT (by omega) (by omega),wDG (by simp only [nI,nU];omega),hM,if_pos yf,if_pos yf]
    unfold finR wJW
    rfl
end Go.Proofs.YtnbcoenjobdplaaGreat
namespace Go.Proofs.YtnbcoenjobdplaaGreat
open Go.KL
theorem wNZ {r:wAI} (g:wFY r) {p:wAL} {A:List wAH} (e:wCv (wDN r)=some (p,A)):wDH r=some (A,0):=by
 unfold wDH
 rw [wIq g]
 simp only [hM,if_true]
 rw [wMW g,hM,wIH (wLO g) e]
 rfl
end Go.Proofs.YtnbcoenjobdplaaGreat
namespace Go.Proofs.YtnbcoenjobdplaaGreat
open Go.KL
def wEr (A:List wAH) (t:wAD):Bool:=A.any fun o=>decide (o.Bib=t.Bib)
def wFO (r:wAI) (A:List wAH):wAI:=⟨r.Rules,r.Start,r.Teams.filter fun t=>!wEr A t⟩
theorem wOA {r:wAI} (g:wFY r) {A:List wAH} (h:1 <= (wFO r A).Teams.length):wFY (wFO r A):=by
 refine ⟨g.rules,⟨h,nj (nV _ _) g.n.2⟩,g.start,fun t ht=>g.team t (ng.1 ht).1,?_⟩
 exact g.bibs.sublist (kB.map _)
theorem wMX {r:wAI} {A:List wAH} {i:Nat} (h:i < (wFO r A).Teams.length):∃ j,j < r.Teams.length/\gd (wFO r A).Teams i=gd r.Teams j/\wEr A (gd r.Teams j)=false:=by
 obtain ⟨h1,h2⟩:=ng.1 (wAe h)
 obtain ⟨j,hj,e⟩:=nB h1
 refine ⟨j,hj,by rw [wCk hj,e];rfl,?_⟩
 rw [wCk hj,e]
 simpa using h2
theorem wDK (r:wAI):(wDN r).Bibs.length=r.Teams.length:=by show (r.Teams.map _).length=_;rw [nH]
theorem wFb {r:wAI} {i:Nat} (hi:i < r.Teams.length):gd (wDN r).Times i=wEP r.Rules (gd r.Teams i).Legs r.Start:=by
 show gd (after r) i=_
 unfold after
 exact wFE _ hi
theorem wMY {r:wAI} {D:List Int} {A:List wAH} {τ:Nat->Option Int} (R:wNz (wDN r) D A τ) {j:Nat} (hj:j < r.Teams.length) (h:wEr A (gd r.Teams j)=false):τ j=none:=by
 cases e:τ j with
 | none=>rfl
 | some s =>
  obtain ⟨o,ho,hb⟩:=R.ents.all j (by rw [wDK];exact hj) (by rw [e];simp)
  have hbj:gd (wDN r).Bibs j=(gd r.Teams j).Bib:=wFE _ hj
  unfold wEr at h
  rw [kd] at h
  exact absurd (decide_eq_true (hb.trans hbj)) (h o ho)
theorem wMZ {r:wAI} {D D':List Int} {A A':List wAH} {τ τ':Nat->Option Int} (R:wNz (wDN r) D A τ) (R':wNz (wDN (wFO r A)) D' A' τ'):A'=[]:=by
 have key:∀ i,i < (wFO r A).Teams.length->τ' i=none:=fun i hi=>by
  cases e:τ' i with
  | none=>rfl
  | some s =>
   obtain ⟨l,hl,hs⟩:=R'.in_ i s (by rw [wDK];exact hi) e
   obtain ⟨q,hq,eq⟩:=nB hl
   rw [<- wCk hq] at eq
   have hql:q < (wFO r A).Teams.length:=by
    have:(wDN (wFO r A)).Times.length=(wFO r A).Teams.length:=by show (after _).length=_;unfold after;rw [nH]
    omega
   obtain ⟨k,hk,_,k2,k3⟩:=(R'.ex i (by rw [wDK];exact hi) q (by rw [wDK];exact hql) s (by rw [eq];exact hs) (fun s' h'=>by rw [e] at h';cases h';exact nN _)).1 e
   rw [wDK] at hk
   obtain ⟨j,hj,ej,oj⟩:=wMX hi
   obtain ⟨m,hm,em,om⟩:=wMX hk
   rw [wFb hi,wFb hk,ej,em] at k3
   rw [wFb hk,em] at k2
   have tj:=wMY R hj oj
   have tm:=wMY R hm om
   have:=(R.ex j (by rw [wDK];exact hj) m (by rw [wDK];exact hm) s (by rw [wFb hm];exact k2) (fun s' h'=>by rw [tj] at h';cases h')).2 ⟨m,by rw [wDK];exact hm,(fun s' h'=>by rw [tm] at h';cases h'),by rw [wFb hm];exact k2,by rw [wFb hj,wFb hm];exact k3⟩
   rw [tj] at this
   cases this
 cases hA:A' with
 | nil=>rfl
 | cons o B =>
  obtain ⟨i,hi,E⟩:=R'.ents.of o (by rw [hA];simp)
  have:=key i (by rw [<- wDK];exact hi)
  rw [E.time] at this
  cases this
theorem maxN (f:Nat->Int) (P:Nat->Prop):∀ n:Nat,(∃ i,i < n/\P i)->∃ i,i < n/\P i/\∀ j,j < n->P j->f j <= f i
 | 0,⟨_,h,_⟩=>by omega
 | n + 1,⟨i,hi,hp⟩=>by
  by_cases h:∃ i,i < n/\P i
  ·obtain ⟨k,hk,pk,mk⟩:=maxN f P n h
   by_cases c:P n/\f k < f n
   ·refine ⟨n,by omega,c.1,fun j hj pj=>?_⟩
    by_cases e:j=n
    ·subst e;exact nN _
    ·have:=mk j (by omega) pj;omega
   ·refine ⟨k,by omega,pk,fun j hj pj=>?_⟩
    by_cases e:j=n
    ·subst e
     exact Int.not_lt.1 fun hl=>c ⟨pj,hl⟩
    ·exact mk j (by omega) pj
  ·have e:i=n:=by
    by_cases c:i < n
    ·exact absurd ⟨i,c,hp⟩ h
    ·omega
   subst e
   refine ⟨i,by omega,hp,fun j hj pj=>?_⟩
   by_cases e:j=i
   ·subst e;exact nN _
   ·exact absurd ⟨j,by omega,pj⟩ h
theorem wMa {r:wAI} (g:wFY r) {D:List Int} {A:List wAH} {τ:Nat->Option Int} (R:wNz (wDN r) D A τ):1 <= (wFO r A).Teams.length:=by
 have hn:=g.n
 have hone:∃ j,j < r.Teams.length/\τ j=none:=by
  refine Classical.byContradiction fun hno=>?_
  have all:∀ j,j < r.Teams.length->∃ s,τ j=some s:=fun j hj=>by
   cases e:τ j with
   | none=>exact absurd ⟨j,hj,e⟩ hno
   | some s=>exact ⟨s,rfl⟩
  obtain ⟨i,hi,_,mi⟩:=maxN (fun j=>(τ j).getD 0) (fun _=>True) r.Teams.length ⟨0,by omega,trivial⟩
  obtain ⟨s,es⟩:=all i hi
  obtain ⟨k,hk,pk,mk⟩:=maxN (fun j=>(cn (gd (wDN r).Times j) s:Int)) (fun j=>τ j=some s) r.Teams.length ⟨i,hi,es⟩
  obtain ⟨l,hl,hs⟩:=R.in_ k s (by rw [wDK];exact hk) pk
  obtain ⟨q,hq,eq⟩:=nB hl
  rw [<- wCk hq] at eq
  have hql:q < r.Teams.length:=by
   have:(wDN r).Times.length=r.Teams.length:=by show (after _).length=_;unfold after;rw [nH]
   omega
  obtain ⟨m,hm,m1,m2,m3⟩:=(R.ex k (by rw [wDK];exact hk) q (by rw [wDK];exact hql) s (by rw [eq];exact hs) (fun s' h'=>by rw [pk] at h';cases h';exact nN _)).1 pk
  rw [wDK] at hm
  obtain ⟨s2,e2⟩:=all m hm
  have a1:=m1 s2 e2
  have a2:=mi m hm trivial
  simp only [es,e2,Option.getD_some] at a2
  have e3:s2=s:=by omega
  subst e3
  have:=mk m hm e2
  omega
 obtain ⟨j,hj,tj⟩:=hone
 have:gd r.Teams j ∈ (wFO r A).Teams:=ng.2 ⟨wAe hj,by
  have:wEr A (gd r.Teams j)=false:=by
   unfold wEr
   rw [kd]
   intro o ho hb
   have hb:=of_decide_eq_true hb
   obtain ⟨i,hi,E⟩:=R.ents.of o ho
   rw [wDK] at hi
   have e:i=j:=by
    have hbi:gd (wDN r).Bibs i=(gd r.Teams i).Bib:=wFE _ hi
    have:(gd r.Teams i).Bib=(gd r.Teams j).Bib:=hbi.symm.trans (E.bib.symm.trans hb)
    have pw:=nA.1 (nK.1 g.bibs)
    rcases ns i j with c | c | c
    ·have:=pw i j (by simpa using hi) (by simpa using hj) c
     rw [nG,nG,<- wCk hi,<- wCk hj] at this
     contradiction
    ·exact c
    ·have q:=pw j i (by simpa using hj) (by simpa using hi) c
     rw [nG,nG,<- wCk hi,<- wCk hj] at q
     exact absurd this.symm q
   subst e
   have:=E.time
   rw [tj] at this
   cases this
  rw [this];rfl⟩
 exact List.length_pos_of_mem this
def wLR (r:wAI) (t:wAD):Bool:=decide (((wEP r.Rules t.Legs r.Start).length:Int)=(wDN r).Laps)
def resT (r:wAI) (t:wAD):wAB:=⟨t.Bib,0,gd (wEP r.Rules t.Legs r.Start) ((wDN r).Laps - 1).toNat + unT t.Legs * r.Rules.Unused⟩
theorem wGF (r:wAI) (A:List wAH) (D:List Int):wJX (wFy r A D)=(r.Teams.filter fun t=>!wEr A t && wLR r t).map (resT r):=by
 have e:r.Teams=(nZ r.Teams.length).map fun k=>gd r.Teams k:=by
  refine List.ext_getElem (by simp) fun i h1 h2=>?_
  rw [nG,ka,wCk h1]
 have aft:∀ k,k < r.Teams.length->gd (after r) k=wEP r.Rules (gd r.Teams k).Legs r.Start:=fun k hk=>by unfold after;exact wFE _ hk
 conv=>rhs;rw [e]
 unfold wJX wFy
 rw [List.filter_map,List.filter_map,ny,ny]
 have hf:(nZ r.Teams.length).filter ((fun x=>x.fin) ∘ wJW r A D)=(nZ r.Teams.length).filter ((fun t=>!wEr A t && wLR r t) ∘ fun k=>gd r.Teams k):=by
  refine ke fun k hk=>?_
  have hk':k < r.Teams.length:=by simpa using hk
  simp only [Function.comp,wJW,wLR,wEr,aft k hk']
 rw [hf]
 refine List.map_congr_left fun k hk=>?_
 have hk':k < r.Teams.length:=by simpa using (ng.1 hk).1
 simp only [Function.comp,wJW,finR,resT,aft k hk']
theorem wNH {r:wAI} (g:wFY r) {A:List wAH} {D D':List Int} {F O F' O':List wAB} (P:wOX (wFy r A D) F O) (P':wOX (wFy (wFO r A) [] D') F' O'):F'=F:=by
 refine wIc P'.fo P.fo (P'.fp.trans ((kg ?_).trans P.fp.symm))
 rw [wGF,wGF]
 have h1:(wFO r A).Teams.filter (fun t=>!wEr [] t && wLR (wFO r A) t)=r.Teams.filter (fun t=>!wEr A t && wLR r t):=by
  show (r.Teams.filter _).filter _=_
  rw [List.filter_filter]
  refine ke fun t _=>?_
  show (!wEr [] t && wLR r t && !wEr A t)=_
  rw [show wEr [] t=false from rfl]
  cases wEr A t <;> simp
 rw [h1]
 rfl
end Go.Proofs.YtnbcoenjobdplaaGreat
namespace Go.Proofs.YtnbcoenjobdplaaGreat
open Go.KL
theorem wKr {a b:Int} (h0:0 <= a) (hb:0 < b):∃ x,rem a b=some x/\0 <= x/\x < b:=by
 refine ⟨a.tmod b,if_neg (by omega),?_,?_⟩
 ·rw [kJ h0];exact Int.emod_nonneg _ (by omega)
 ·rw [kJ h0];exact Int.emod_lt_of_pos _ hb
theorem wKG (x:Int):0 <= wFh x:=by unfold wFh;omega
theorem wOB (x:Int):wFh x < 4294967296:=by unfold wFh;omega
theorem w64u (x:Int):w64 (wFh x)=wFh x:=by
 have:=wKG x
 have:=wOB x
 exact wAT (by omega) (by omega)
theorem wNI (a:Int) {b:Int} (hb:b ≠ 0):∃ x,quo a b=some x:=⟨_,if_neg hb⟩
theorem wMb (d:wAE) (n:Int) (h0:0 <= d.next) (h1:d.next <= 1000000):∃ x d',wAK d n=some (x,d')/\0 <= d'.next/\d'.next <= d.next + 1/\0 <= x/\(x < n \/ (n <= 1/\x=0)):=by
 unfold wAK
 by_cases hn:n <= 1
 ·exact ⟨0,d,by rw [if_pos hn],h0,by omega,by omega,.inr ⟨hn,rfl⟩⟩
 rw [if_neg hn]
 by_cases hl:(d.bytes.length:Int)=0
 ·exact ⟨0,d,by rw [if_pos hl],h0,by omega,by omega,.inl (by omega)⟩
 rw [if_neg hl]
 obtain ⟨r,e1,r0,r1⟩:=wKr h0 (show (0:Int) < d.bytes.length by omega)
 obtain ⟨b,e2⟩:∃ b,idx d.bytes r=some b:=by
  unfold idx
  rw [if_pos r0,nk (by omega)]
  exact ⟨_,rfl⟩
 obtain ⟨q,e3⟩:=wNI d.next (b:=d.bytes.length) hl
 obtain ⟨st,e4,_,_⟩:=wKr (wKG ((wFh ((wFh ((wFh (d.state * 45)) + (wFh b))) + (wFh (77 * (wFh q))))) + 1)) (b:=65519) (by decide)
 rw [e1,hM,e2,hM,e3,hM,e4,hM,wAT (x:=d.next + 1) (by omega) (by omega)]
 have fin:∀ z:Int,∃ x d',((rem (w64 (wFh z)) n).bind fun x=>some (x,(⟨d.bytes,d.next + 1,st⟩:wAE)))=some (x,d')/\0 <= d'.next/\d'.next <= d.next + 1/\0 <= x/\(x < n \/ (n <= 1/\x=0)):=by
  intro z
  obtain ⟨x,e5,x0,x1⟩:=wKr (a:=w64 (wFh z)) (b:=n) (by rw [w64u];exact wKG z) (by omega)
  exact ⟨x,_,by rw [e5];rfl,by show 0 <= d.next + 1;omega,by show d.next + 1 <= _;omega,x0,.inl x1⟩
 by_cases c1:wFh q=0
 ·rw [if_pos c1]
  by_cases c2:n <= 256
  ·rw [if_pos c2];exact fin _
  ·rw [if_neg c2];exact fin _
 ·rw [if_neg c1];exact fin _
theorem wOC (d:wAE) (a b:Int) (h0:0 <= d.next) (h1:d.next <= 1000000) (ha:-1000000 <= a) (hab:a <= b) (hb:b <= 1000000):∃ x d',wAS d a b=some (x,d')/\0 <= d'.next/\d'.next <= d.next + 1/\a <= x/\x <= b:=by
 unfold wAS
 rw [wAT (x:=b - a) (by omega) (by omega),wAT (x:=b - a + 1) (by omega) (by omega)]
 obtain ⟨x,d',e,n0,n1,x0,x1⟩:=wMb d (b - a + 1) h0 h1
 refine ⟨a + x,d',?_,n0,n1,by omega,by omega⟩
 rw [e,hM]
 simp only
 rw [wAT (by omega) (by omega)]
end Go.Proofs.YtnbcoenjobdplaaGreat
namespace Go.Proofs.YtnbcoenjobdplaaGreat
open Go.KL
def wCg (d:wAE) (n:Int):Prop:=0 <= d.next/\d.next <= n
theorem wGy {d:wAE} {N:Int} (h:wCg d N) (hN:N <= 1000000) (n:Int):∃ x d',wAK d n=some (x,d')/\wCg d' (N + 1)/\0 <= x/\(x < n \/ (n <= 1/\x=0)):=by
 obtain ⟨x,d',e,a,b,c⟩:=wMb d n h.1 (by have:=h.2;omega)
 exact ⟨x,d',e,⟨a,by have:=h.2;omega⟩,c⟩
theorem wIK {d:wAE} {N:Int} (h:wCg d N) (hN:N <= 1000000) {a b:Int} (ha:-1000000 <= a) (hab:a <= b) (hb:b <= 1000000):∃ x d',wAS d a b=some (x,d')/\wCg d' (N + 1)/\a <= x/\x <= b:=by
 obtain ⟨x,d',e,c,c2,c3⟩:=wOC d a b h.1 (by have:=h.2;omega) ha hab hb
 exact ⟨x,d',e,⟨c,by have:=h.2;omega⟩,c3⟩
theorem wKs {d:wAE} {N:Int} (h:wCg d N) (hN:N <= 1000000) (n:Int):∃ x d',wAc d n=some (x,d')/\wCg d' (N + 1):=by
 obtain ⟨x,d',e,c,_⟩:=wGy h hN n
 exact ⟨decide (x=0),d',by unfold wAc;rw [e];rfl,c⟩
theorem wGb (b:Bool):∀ (l:List Bool) (k:Nat),wED (l ++ [b]) k=(wED l k).bind fun m=>if m=5 then none else some (m + if b=true then 1 else 0)
 | [],k=>rfl
 | c :: l,k=>by
  rw [nu,wED,wED]
  split
  ·rfl
  ·exact wGb b l _
theorem wId:∀ (l:List Bool) (k m:Nat),wED l k=some m->m <= k + l.length
 | [],k,m,h=>by cases h;simp
 | b :: l,k,m,h=>by
  rw [wED] at h
  split at h
  ·cases h
  ·have:=wId l _ m h
   simp only [nI]
   split at this <;> omega
theorem wNJ {d:wAE} {N:Int} (h:wCg d N) (hN:N <= 900000):∃ l d',wAi d=some (l,d')/\wCg d' (N + 18)/\okB l:=by
 unfold wAi
 obtain ⟨⟨l,d'⟩,e,z1,z2⟩:=wIs (S:=List Int × Int × Int × List Bool × Int) (B:=List Bool × wAE) (body:=fun (l31,x34,x35,l36,x40) =>
  if x40 < 5 then
   if (↑l36.length:Int) < 5 then
    (wAc (⟨l31,x34,x35⟩:wAE) 4).bind fun (x61,x62) =>
    (app 1 l36 [!x61]).bind fun x80 =>
    if x61=true then
     some (.inl (x62.bytes,x62.next,x62.state,x80,x40))
    else
     some (.inl (x62.bytes,x62.next,x62.state,x80,w64 (x40 + 1)))
   else
    if (↑l36.length:Int) < 8 then
     (wAc (⟨l31,x34,x35⟩:wAE) 6).bind fun (x112,x113) =>
     if x112=true then
      esc (some (l36,x113))
     else
      (wAc x113 4).bind fun (x132,x133) =>
      (app 1 l36 [!x132]).bind fun x151 =>
      if x132=true then
       some (.inl (x133.bytes,x133.next,x133.state,x151,x40))
      else
       some (.inl (x133.bytes,x133.next,x133.state,x151,w64 (x40 + 1)))
    else
     esc (some (l36,(⟨l31,x34,x35⟩:wAE)))
  else
   esc (some (l36,(⟨l31,x34,x35⟩:wAE))))
  (fun i s=>wCg ⟨s.1,s.2.1,s.2.2.1⟩ (N + 2 * (i:Int))/\s.2.2.2.1.length=i/\∃ m:Nat,wED s.2.2.2.1 0=some m/\s.2.2.2.2=m) (fun b=>wCg b.2 (N + 18)/\okB b.1) 8
  (by
   rintro i ⟨B,x,s,l,t⟩ hi ⟨h1,h2,m,h3,h4⟩
   simp only at h1 h2 h3 h4 ⊢
   subst h4
   have hm:=(wGu l 0 m (by omega) h3).2
   have hml:=wId l 0 m h3
   have done:(5 <= l.length)->wCg ⟨B,x,s⟩ (N + 18)/\okB l:=fun h5=>⟨⟨h1.1,by have:=h1.2;omega⟩,h5,by omega,m,h3⟩
   have grow:∀ (c:Bool) (d2:wAE),wCg d2 (N + 2 * ((i + 1:Nat):Int))->m < 5->i < 8 ->
     ∃ s',(if c=true then (some (.inl (d2.bytes,d2.next,d2.state,l ++ [!c],(m:Int))):Option ((List Int × Int × Int × List Bool × Int) ⊕ (List Bool × wAE))) else some (.inl (d2.bytes,d2.next,d2.state,l ++ [!c],w64 ((m:Int) + 1))))=some (.inl s')/\wCg ⟨s'.1,s'.2.1,s'.2.2.1⟩ (N + 2 * ((i + 1:Nat):Int))/\s'.2.2.2.1.length=i + 1/\∃ m':Nat,wED s'.2.2.2.1 0=some m'/\s'.2.2.2.2=m':=by
    intro c d2 hd h5 h8
    cases c with
    | true=>exact ⟨_,if_pos rfl,hd,by simp [h2],m,by show wED (l ++ _) 0=_;rw [wGb,h3,hM,if_neg (by omega)];rfl,rfl⟩
    | false=>exact ⟨_,if_neg (by decide),hd,by simp [h2],m + 1,by show wED (l ++ _) 0=_;rw [wGb,h3,hM,if_neg (by omega)];rfl,by show w64 _=_;rw [wAT (by omega) (by omega)];omega⟩
   by_cases c1:(m:Int) < 5
   ·rw [if_pos c1]
    by_cases c2:(l.length:Int) < 5
    ·rw [if_pos c2]
     left
     refine ⟨by omega,?_⟩
     obtain ⟨c,d2,e1,g1⟩:=wKs h1 (by omega) 4
     rw [e1,hM]
     simp only
     rw [wDG (by simp;omega),hM]
     exact grow c d2 ⟨g1.1,by have:=g1.2;omega⟩ (by omega) (by omega)
    ·rw [if_neg c2]
     by_cases c3:(l.length:Int) < 8
     ·rw [if_pos c3]
      obtain ⟨c,d2,e1,g1⟩:=wKs h1 (by omega) 6
      rw [e1,hM]
      simp only
      cases c with
      | true =>
       right
       rw [if_pos rfl]
       refine ⟨_,rfl,⟨g1.1,by have:=g1.2;simp only;omega⟩,(done (by omega)).2⟩
      | false =>
       left
       refine ⟨by omega,?_⟩
       rw [if_neg (by decide)]
       obtain ⟨c,d3,e2,g2⟩:=wKs g1 (by omega) 4
       rw [e2,hM]
       simp only
       rw [wDG (by simp;omega),hM]
       exact grow c d3 ⟨g2.1,by have:=g2.2;omega⟩ (by omega) (by omega)
     ·rw [if_neg c3]
      right
      exact ⟨_,rfl,done (by omega)⟩
   ·rw [if_neg c1]
    right
    exact ⟨_,rfl,done (by omega)⟩) (s0:=(d.bytes,d.next,d.state,[],0)) ⟨⟨h.1,by have:=h.2;simp only;omega⟩,rfl,0,rfl,rfl⟩ (by omega)
 exact ⟨l,d',e,z1,z2⟩
theorem wNK {p:wAJ} {L:Nat} (hL:p.Laps=L) (h0:0 < L) (h3:L <= 3) {pace:Int} (hp:300 <= pace/\pace <= 900) {t:wAD} {sk:Int} (hsk:0 <= sk/\sk < t.Classes.length) {legs:List wAA} (hlegs:legs.length <= 10) {d:wAE} {N:Int} (h:wCg d N) (hN:N <= 800000) {T:Nat} (hT:0 < T) (hT2:T <= 100) :
    ∃ (s':List Int × Int × Int × List wAA × Int) (l:wAA) (i:Nat),iter (S:=List Int × List (List Bool) × List Int × Int × Int × Int × Int) (B:=(List Int × Int × Int × List wAA × Int) ⊕ (List Int × Int × Int × List wAA)) (fun (l1152,l1156,l1161,x1164,x1165,x1166,x1167) =>
            if x1167 < p.Laps then
              if 0 < x1166 then
                (wAK (⟨l1161,x1164,x1165⟩:wAE) 200).bind fun (x1233,x1234) =>
                (app 8 l1152 [w64 (pace + x1233)]).bind fun x1253 =>
                if 0 < x1167 then
                  (wAi x1234).bind fun (x1315,x1316) =>
                  (app 24 l1156 [x1315]).bind fun x1344 =>
                  some (.inl (x1253,x1344,x1316.bytes,x1316.next,x1316.state,w64 (x1166 - 1),w64 (x1167 + 1)))
                else
                  some (.inl (x1253,l1156,x1234.bytes,x1234.next,x1234.state,w64 (x1166 - 1),w64 (x1167 + 1)))
              else
                esc ((app 56 legs [(⟨sk,l1152,l1156⟩:wAA)]).bind fun x1413 =>
                some (.inl (l1161,x1164,x1165,x1413,x1166)))
            else
              esc ((app 56 legs [(⟨sk,l1152,l1156⟩:wAA)]).bind fun x1464 =>
              some (.inl (l1161,x1164,x1165,x1464,x1166)))) big ([],[],d.bytes,d.next,d.state,(T:Int),0)=some (.inl s')/\wCg ⟨s'.1,s'.2.1,s'.2.2.1⟩ (N + 60)/\s'.2.2.2.1=legs ++ [l]/\wFN p t l/\l.Loops.length=i/\i <= L/\0 < i/\i <= T/\s'.2.2.2.2=((T - i:Nat):Int)/\(i=L \/ i=T):=by
  obtain ⟨b,e,s',l,i,rfl,z⟩:=wIs (S:=List Int × List (List Bool) × List Int × Int × Int × Int × Int) (B:=(List Int × Int × Int × List wAA × Int) ⊕ (List Int × Int × Int × List wAA)) (body:=fun (l1152,l1156,l1161,x1164,x1165,x1166,x1167) =>
            if x1167 < p.Laps then
              if 0 < x1166 then
                (wAK (⟨l1161,x1164,x1165⟩:wAE) 200).bind fun (x1233,x1234) =>
                (app 8 l1152 [w64 (pace + x1233)]).bind fun x1253 =>
                if 0 < x1167 then
                  (wAi x1234).bind fun (x1315,x1316) =>
                  (app 24 l1156 [x1315]).bind fun x1344 =>
                  some (.inl (x1253,x1344,x1316.bytes,x1316.next,x1316.state,w64 (x1166 - 1),w64 (x1167 + 1)))
                else
                  some (.inl (x1253,l1156,x1234.bytes,x1234.next,x1234.state,w64 (x1166 - 1),w64 (x1167 + 1)))
              else
                esc ((app 56 legs [(⟨sk,l1152,l1156⟩:wAA)]).bind fun x1413 =>
                some (.inl (l1161,x1164,x1165,x1413,x1166)))
            else
              esc ((app 56 legs [(⟨sk,l1152,l1156⟩:wAA)]).bind fun x1464 =>
              some (.inl (l1161,x1164,x1165,x1464,x1166))))
    (fun i s=>wCg ⟨s.2.2.1,s.2.2.2.1,s.2.2.2.2.1⟩ (N + 20 * (i:Int))/\s.1.length=i/\s.2.1.length=i - 1/\(∀ n ∈ s.1,1 <= n/\n <= 9000)/\(∀ b ∈ s.2.1,okB b)/\i <= T/\i <= L/\s.2.2.2.2.2.1=((T - i:Nat):Int)/\s.2.2.2.2.2.2=(i:Int))
    (fun b=>∃ s' l i,b=.inl s'/\wCg ⟨s'.1,s'.2.1,s'.2.2.1⟩ (N + 60)/\s'.2.2.2.1=legs ++ [l]/\wFN p t l/\l.Loops.length=i/\i <= L/\0 < i/\i <= T/\s'.2.2.2.2=((T - i:Nat):Int)/\(i=L \/ i=T)) L
    (by
      rintro i ⟨lo,bo,B,x,s,td,lp⟩ hi ⟨h1,h2,h4,h5,h6,h7,h8,h9,h10⟩
      simp only at h1 h2 h4 h5 h6 h9 h10 ⊢
      subst h9 h10
      have h1b:x <= N + 20 * (i:Int):=h1.2
      have done:0 < i->(i=L \/ i=T)->∃ b,(esc ((app 56 legs [(⟨sk,lo,bo⟩:wAA)]).bind fun x1413=>(some (.inl (B,x,s,x1413,((T - i:Nat):Int))):Option ((List Int × Int × Int × List wAA × Int) ⊕ (List Int × Int × Int × List wAA)))):Option ((List Int × List (List Bool) × List Int × Int × Int × Int × Int) ⊕ ((List Int × Int × Int × List wAA × Int) ⊕ (List Int × Int × Int × List wAA))))=some (.inr b)/\∃ s' l i,b=.inl s'/\wCg ⟨s'.1,s'.2.1,s'.2.2.1⟩ (N + 60)/\s'.2.2.2.1=legs ++ [l]/\wFN p t l/\l.Loops.length=i/\i <= L/\0 < i/\i <= T/\s'.2.2.2.2=((T - i:Nat):Int)/\(i=L \/ i=T):=by
        intro hi0 hiL
        rw [wDG (by simp;omega),hM]
        exact ⟨_,rfl,_,⟨sk,lo,bo⟩,i,rfl,⟨h1.1,by show x <= _;omega⟩,rfl,⟨by simp only;omega,by simp only;omega,h5,hsk,h6⟩,h2,h8,hi0,h7,rfl,hiL⟩
      rw [hL]
      by_cases c1:(i:Int) < (L:Int)
      · rw [if_pos c1]
        by_cases c2:(0:Int) < ((T - i:Nat):Int)
        · rw [if_pos c2]
          left
          refine ⟨by omega,?_⟩
          obtain ⟨n,d2,e1,g1,n0,n1⟩:=wGy h1 (by omega) 200
          rw [e1,hM]
          simp only
          rw [wAT (x:=pace + n) (by omega) (by omega),wDG (by simp;omega),hM,wAT (x:=((T - i:Nat):Int) - 1) (by omega) (by omega),wAT (x:=(i:Int) + 1) (by omega) (by omega)]
          have hlo:∀ q ∈ lo ++ [pace + n],1 <= q/\q <= 9000:=fun q hq=>by
            rcases nJ.1 hq with hq | hq
            · exact h5 q hq
            · simp at hq
              omega
          by_cases c3:(0:Int) < (i:Int)
          · rw [if_pos c3]
            obtain ⟨f,d3,e2,g2,g3⟩:=wNJ g1 (by omega)
            rw [e2,hM]
            simp only
            rw [wDG (by simp;omega),hM]
            refine ⟨_,rfl,⟨g2.1,by have:=g2.2;simp only;omega⟩,by simp [h2],by clear done;simp only [nL,nI,nU];omega,hlo,fun b hb=>?_,by omega,by omega,by simp only;omega,by simp only;omega⟩
            rcases nJ.1 hb with hb | hb
            · exact h6 b hb
            · simp at hb
              subst hb
              exact g3
          · rw [if_neg c3]
            exact ⟨_,rfl,⟨g1.1,by have:=g1.2;simp only;omega⟩,by simp [h2],by simp only;omega,hlo,h6,by omega,by omega,by simp only;omega,by simp only;omega⟩
        · rw [if_neg c2]
          right
          exact done (by omega) (by omega)
      · rw [if_neg c1]
        right
        exact done (by omega) (by omega)) (s0:=([],[],d.bytes,d.next,d.state,(T:Int),0)) ⟨⟨h.1,by have:=h.2;simp only;omega⟩,rfl,rfl,fun n hn=>by simp at hn,fun b hb=>by simp at hb,by omega,by omega,by simp,rfl⟩ (by omega)
  exact ⟨s',l,i,e,z⟩
theorem wJb {p:wAJ} {L C:Nat} (hL:p.Laps=L) (h0:0 < L) (h3:L <= 3) (hC:C <= 4) {pace:Int} (hp:300 <= pace/\pace <= 900) {t:wAD} {n:Nat} (hn:t.Classes.length=n) (hn1:1 <= n) {d:wAE} {N:Int} (h:wCg d N) (hN:N <= 700000) {T:Nat} (hT:T <= C * L) :
    ∃ s':List Int × Int × Int × List wAA,iter (S:=List Int × Int × Int × List wAA × Int) (B:=List Int × Int × Int × List wAA) (fun (l1029,x1032,x1033,l1034,x1039) =>
        if 0 < x1039 then
          (wAK (⟨l1029,x1032,x1033⟩:wAE) (n:Int)).bind fun (x1064,x1065) =>
          iter (fun (l1152,l1156,l1161,x1164,x1165,x1166,x1167) =>
            if x1167 < p.Laps then
              if 0 < x1166 then
                (wAK (⟨l1161,x1164,x1165⟩:wAE) 200).bind fun (x1233,x1234) =>
                (app 8 l1152 [w64 (pace + x1233)]).bind fun x1253 =>
                if 0 < x1167 then
                  (wAi x1234).bind fun (x1315,x1316) =>
                  (app 24 l1156 [x1315]).bind fun x1344 =>
                  some (.inl (x1253,x1344,x1316.bytes,x1316.next,x1316.state,w64 (x1166 - 1),w64 (x1167 + 1)))
                else
                  some (.inl (x1253,l1156,x1234.bytes,x1234.next,x1234.state,w64 (x1166 - 1),w64 (x1167 + 1)))
              else
                esc ((app 56 l1034 [(⟨x1064,l1152,l1156⟩:wAA)]).bind fun x1413 =>
                some (.inl (l1161,x1164,x1165,x1413,x1166)))
            else
              esc ((app 56 l1034 [(⟨x1064,l1152,l1156⟩:wAA)]).bind fun x1464 =>
              some (.inl (l1161,x1164,x1165,x1464,x1166)))) big ([],[],x1065.bytes,x1065.next,x1065.state,x1039,0)
        else
          esc (some (l1029,x1032,x1033,l1034))) big (d.bytes,d.next,d.state,[],(T:Int))=some s'/\wCg ⟨s'.1,s'.2.1,s'.2.2.1⟩ (N + 300)/\s'.2.2.2.length <= C/\(∀ k,k + 1 < s'.2.2.2.length->((gd s'.2.2.2 k).Loops.length:Int)=p.Laps)/\∀ l ∈ s'.2.2.2,wFN p t l:=by
  have hT12:T <= 12:=nj hT (nj (kT hC h3) (by omega))
  obtain ⟨b,e,z⟩:=wIs (S:=List Int × Int × Int × List wAA × Int) (B:=List Int × Int × Int × List wAA) (body:=fun (l1029,x1032,x1033,l1034,x1039) =>
        if 0 < x1039 then
          (wAK (⟨l1029,x1032,x1033⟩:wAE) (n:Int)).bind fun (x1064,x1065) =>
          iter (fun (l1152,l1156,l1161,x1164,x1165,x1166,x1167) =>
            if x1167 < p.Laps then
              if 0 < x1166 then
                (wAK (⟨l1161,x1164,x1165⟩:wAE) 200).bind fun (x1233,x1234) =>
                (app 8 l1152 [w64 (pace + x1233)]).bind fun x1253 =>
                if 0 < x1167 then
                  (wAi x1234).bind fun (x1315,x1316) =>
                  (app 24 l1156 [x1315]).bind fun x1344 =>
                  some (.inl (x1253,x1344,x1316.bytes,x1316.next,x1316.state,w64 (x1166 - 1),w64 (x1167 + 1)))
                else
                  some (.inl (x1253,l1156,x1234.bytes,x1234.next,x1234.state,w64 (x1166 - 1),w64 (x1167 + 1)))
              else
                esc ((app 56 l1034 [(⟨x1064,l1152,l1156⟩:wAA)]).bind fun x1413 =>
                some (.inl (l1161,x1164,x1165,x1413,x1166)))
            else
              esc ((app 56 l1034 [(⟨x1064,l1152,l1156⟩:wAA)]).bind fun x1464 =>
              some (.inl (l1161,x1164,x1165,x1464,x1166)))) big ([],[],x1065.bytes,x1065.next,x1065.state,x1039,0)
        else
          esc (some (l1029,x1032,x1033,l1034)))
    (fun j s=>wCg ⟨s.1,s.2.1,s.2.2.1⟩ (N + 61 * (j:Int))/\s.2.2.2.1.length=j/\j <= C/\(∀ l ∈ s.2.2.2.1,wFN p t l)/\∃ td:Nat,s.2.2.2.2=(td:Int)/\td <= T/\(0 < td->j * L + td=T)/\(∀ k,k + 1 < j->((gd s.2.2.2.1 k).Loops.length:Int)=p.Laps)/\(0 < td->∀ k,k < j->((gd s.2.2.2.1 k).Loops.length:Int)=p.Laps))
    (fun s'=>wCg ⟨s'.1,s'.2.1,s'.2.2.1⟩ (N + 300)/\s'.2.2.2.length <= C/\(∀ k,k + 1 < s'.2.2.2.length->((gd s'.2.2.2 k).Loops.length:Int)=p.Laps)/\∀ l ∈ s'.2.2.2,wFN p t l) C
    (by
      rintro j ⟨B,x,s,legs,td0⟩ hj ⟨h1,h2,h4,h5,td,h6,h7,h8,h9,h10⟩
      simp only at h1 h2 h5 h6 h9 h10 ⊢
      subst h6
      by_cases c1:(0:Int) < (td:Int)
      · rw [if_pos c1]
        left
        have c1':0 < td:=by omega
        have hjC:j < C:=by
          have:=h8 c1'
          exact Nat.lt_of_mul_lt_mul_right (a:=L) (by omega)
        refine ⟨hjC,?_⟩
        obtain ⟨sk,d2,e1,g1,k0,k1⟩:=wGy h1 (by omega) (n:Int)
        rw [e1,hM]
        simp only
        obtain ⟨s',l,i,f1,f2,f3,f4,f5,f6,f7,f8,f9,f10⟩:=wNK (p:=p) hL h0 h3 hp (t:=t) (sk:=sk) ⟨k0,by omega⟩ (legs:=legs) (by omega) g1 (by omega) c1' (by omega)
        refine ⟨s',f1,⟨f2.1,by have:=f2.2;omega⟩,by rw [f3];simp [h2],by omega,fun a ha=>?_,td - i,f9,by omega,fun hq=>?_,fun k hk=>?_,fun hq k hk=>?_⟩
        · rw [f3] at ha
          rcases nJ.1 ha with ha | ha
          · exact h5 a ha
          · simp at ha
            subst ha
            exact f4
        · have:=h8 c1'
          have hiL:i=L:=by omega
          rw [Nat.add_mul]
          omega
        · rw [f3,wGE (by omega)]
          exact h10 c1' k (by omega)
        · have hiL:i=L:=by omega
          rw [f3]
          rcases nl k j with hk2 | hk2
          · rw [wGE (by omega)]
            exact h10 c1' k hk2
          · have:k=legs.length:=by omega
            subst this
            rw [wKe]
            omega
      · rw [if_neg c1]
        right
        have h1b:x <= N + 61 * (j:Int):=h1.2
        exact ⟨_,rfl,⟨h1.1,by show x <= _;omega⟩,by simp only;omega,fun k hk=>h9 k (by simp only at hk;omega),h5⟩) (s0:=(d.bytes,d.next,d.state,[],(T:Int))) ⟨⟨h.1,by have:=h.2;simp only;omega⟩,rfl,by omega,fun l hl=>by simp at hl,T,rfl,kF _,fun _=>by omega,fun k hk=>by omega,fun _ k hk=>by omega⟩ (by omega)
  exact ⟨b,e,z⟩
end Go.Proofs.YtnbcoenjobdplaaGreat
namespace Go.Proofs.YtnbcoenjobdplaaGreat
open Go.KL
theorem wKt {N:Int} {n:Nat} (hn:n <= 10) {d:wAE} (h:wCg d N) (hN:N <= 900000):∃ s':List Int × Int × Int × List Int,(wBc 0 (n:Int) (fun (k204:Nat) ((l195,x198,x199,l200):List Int × Int × Int × List Int) =>
      (wAK (⟨l195,x198,x199⟩:wAE) 2).bind fun (x269,x270) =>
      (app 8 l200 [x269]).bind fun x288 =>
      some (x270.bytes,x270.next,x270.state,x288)) (d.bytes,d.next,d.state,[]))=some s'/\wCg ⟨s'.1,s'.2.1,s'.2.2.1⟩ (N + 10)/\s'.2.2.2.length=n/\∀ c ∈ s'.2.2.2,0 <= c/\c <= 3:=by
  rw [wGD (by omega)]
  obtain ⟨s',e,i1,i2,i3⟩:=wGt (S:=List Int × Int × Int × List Int) (body:=fun (k204:Nat) ((l195,x198,x199,l200):List Int × Int × Int × List Int) =>
      (wAK (⟨l195,x198,x199⟩:wAE) 2).bind fun (x269,x270) =>
      (app 8 l200 [x269]).bind fun x288 =>
      some (x270.bytes,x270.next,x270.state,x288)) (fun k s=>wCg ⟨s.1,s.2.1,s.2.2.1⟩ (N + (k:Int))/\s.2.2.2.length=k/\∀ c ∈ s.2.2.2,0 <= c/\c <= 3) n 0 (d.bytes,d.next,d.state,[]) ⟨⟨h.1,by have:=h.2;simp only;omega⟩,rfl,fun c hc=>by simp at hc⟩
    (by
      rintro k ⟨B,x,s,l⟩ _ hk ⟨i1,i2,i3⟩
      simp only at i1 i2 i3 ⊢
      obtain ⟨c,d2,e1,g1,c0,c1⟩:=wGy i1 (by omega) 2
      rw [e1,hM]
      simp only
      rw [wDG (by simp;omega),hM]
      refine ⟨_,rfl,⟨g1.1,by have:=g1.2;simp only;omega⟩,by simp [i2],fun a ha=>?_⟩
      rcases nJ.1 ha with ha | ha
      · exact i3 a ha
      · simp at ha
        omega)
  rw [kZ] at i1 i2
  exact ⟨s',e,⟨i1.1,by have:=i1.2;omega⟩,i2,i3⟩
theorem wNL {d:wAE} {N:Int} (h:wCg d N) (hN:N <= 800000) {m:Int} (hm:1 <= m/\m <= 4):∃ p d',wCS d m=some (p,d')/\wCg d' (N + 16)/\wEO p/\p.Laps <= 3/\(p.Classes.length:Int) <= m:=by
 unfold wCS
 obtain ⟨a1,d1,e1,g1,u1,v1⟩:=wIK h (by omega) (a:=1) (b:=2) (by omega) (by omega) (by omega)
 rw [e1,hM];simp only
 obtain ⟨a2,d2,e2,g2,u2,v2⟩:=wIK g1 (by omega) (a:=1) (b:=3) (by omega) (by omega) (by omega)
 rw [e2,hM];simp only
 obtain ⟨a3,d3,e3,g3,u3,v3⟩:=wGy g2 (by omega) 100
 rw [e3,hM];simp only
 obtain ⟨a4,d4,e4,g4,u4,v4⟩:=wGy g3 (by omega) 100
 rw [e4,hM];simp only
 obtain ⟨a5,d5,e5,g5,u5,v5⟩:=wGy g4 (by omega) 13
 rw [e5,hM];simp only
 obtain ⟨a6,d6,e6,g6,u6,v6⟩:=wIK g5 (by omega) (a:=1) (b:=m) (by omega) (by omega) (by omega)
 rw [e6,hM];simp only
 obtain ⟨n,rfl⟩:∃ n:Nat,a6=n:=⟨a6.toNat,by omega⟩
 obtain ⟨⟨sB,sx,ss,sl⟩,e7,g7,i2,i3⟩:=wKt (n:=n) (by omega) g6 (by omega)
 simp only at g7 i2 i3
 rw [e7,hM];simp only
 rw [wAT (x:=200 + a4) (by omega) (by omega),wAT (x:=100 * a5) (by omega) (by omega)]
 refine ⟨_,_,rfl,⟨g7.1,by have:=g7.2;omega⟩,⟨by simp only;omega,i3,by simp only;omega,by simp only;omega,by simp only;omega,by simp only;omega,by simp only;omega⟩,by simp only;omega,by simp only;omega⟩
theorem wOD {d:wAE} {N:Int} (h:wCg d N) (hN:N <= 1000) {m q:Int} (hm:1 <= m/\m <= 8) (hq:1 <= q/\q <= 4):∃ r d',wCA d m q=some (r,d')/\wFY r/\r.Rules.Laps <= 3/\(r.Teams.length:Int) <= m:=by
 unfold wCA
 obtain ⟨p,d1,e1,g1,gp,hl3,_⟩:=wNL h (by omega) hq
 rw [e1,hM];simp only
 obtain ⟨st,d2,e2,g2,u2,v2⟩:=wGy g1 (by omega) 50
 rw [e2,hM];simp only
 obtain ⟨nt,d3,e3,g3,u3,v3⟩:=wIK g2 (by omega) (a:=1) (b:=m) (by omega) (by omega) (by omega)
 rw [e3,hM];simp only
 obtain ⟨n,rfl⟩:∃ n:Nat,nt=n:=⟨nt.toNat,by omega⟩
 have hlap:=gp.laps;have hcl:=gp.n
 obtain ⟨L,hL⟩:∃ L:Nat,p.Laps=L:=⟨p.Laps.toNat,by omega⟩
 rw [wGD (by omega)]
 obtain ⟨s',e,i1,i2,i3,i4,i5⟩:=wGt (S:=List Int × Int × Int × List wAD) (body:=fun k102 (l92,x95,x96,l97) =>
  (wAS (⟨l92,x95,x96⟩:wAE) 1 9).bind fun (x131,x132) =>
  (wAS x132 1 5).bind fun (x152,x153) =>
  (wBc 0 x152 (fun k204 (l195,x198,x199,l200) =>
   (wAK (⟨l195,x198,x199⟩:wAE) 2).bind fun (x269,x270) =>
   (app 8 l200 [x269]).bind fun x288 =>
   some (x270.bytes,x270.next,x270.state,x288)) (x153.bytes,x153.next,x153.state,[])).bind fun (y209,y210,y211,y212) =>
  (wAS (⟨y209,y210,y211⟩:wAE) 300 900).bind fun (x355,x356) =>
  (wAc x356 4).bind fun (x369,x370) =>
  if x369=true then
   (wAK x370 (w64 ((w64 ((↑p.Classes.length:Int) * p.Laps)) + 1))).bind fun (x385,x386) =>
   (iter (fun (l443,x446,x447,l448,x453) =>
    if 0 < x453 then
     (wAK (⟨l443,x446,x447⟩:wAE) (↑y212.length:Int)).bind fun (x478,x479) =>
     iter (fun (l566,l570,l575,x578,x579,x580,x581) =>
      if x581 < p.Laps then
       if 0 < x580 then
        (wAK (⟨l575,x578,x579⟩:wAE) 200).bind fun (x647,x648) =>
        (app 8 l566 [w64 (x355 + x647)]).bind fun x667 =>
        if 0 < x581 then
         (wAi x648).bind fun (x729,x730) =>
         (app 24 l570 [x729]).bind fun x758 =>
         some (.inl (x667,x758,x730.bytes,x730.next,x730.state,w64 (x580 - 1),w64 (x581 + 1)))
        else
         some (.inl (x667,l570,x648.bytes,x648.next,x648.state,w64 (x580 - 1),w64 (x581 + 1)))
       else
        esc ((app 56 l448 [(⟨x478,l566,l570⟩:wAA)]).bind fun x827 =>
        some (.inl (l575,x578,x579,x827,x580)))
      else
       esc ((app 56 l448 [(⟨x478,l566,l570⟩:wAA)]).bind fun x878 =>
       some (.inl (l575,x578,x579,x878,x580)))) big ([],[],x479.bytes,x479.next,x479.state,x453,0)
    else
     esc (some (l443,x446,x447,l448))) big (x386.bytes,x386.next,x386.state,[],x385)).bind fun (l399,x402,x403,l404) =>
   (app 56 l97 [(⟨w64 ((w64 (9 * (↑k102:Int))) + x131),y212,l404⟩:wAD)]).bind fun x951 =>
   some (l399,x402,x403,x951)
  else
   (iter (fun (l1029,x1032,x1033,l1034,x1039) =>
    if 0 < x1039 then
     (wAK (⟨l1029,x1032,x1033⟩:wAE) (↑y212.length:Int)).bind fun (x1064,x1065) =>
     iter (fun (l1152,l1156,l1161,x1164,x1165,x1166,x1167) =>
      if x1167 < p.Laps then
       if 0 < x1166 then
        (wAK (⟨l1161,x1164,x1165⟩:wAE) 200).bind fun (x1233,x1234) =>
        (app 8 l1152 [w64 (x355 + x1233)]).bind fun x1253 =>
        if 0 < x1167 then
         (wAi x1234).bind fun (x1315,x1316) =>
         (app 24 l1156 [x1315]).bind fun x1344 =>
         some (.inl (x1253,x1344,x1316.bytes,x1316.next,x1316.state,w64 (x1166 - 1),w64 (x1167 + 1)))
        else
         some (.inl (x1253,l1156,x1234.bytes,x1234.next,x1234.state,w64 (x1166 - 1),w64 (x1167 + 1)))
       else
        esc ((app 56 l1034 [(⟨x1064,l1152,l1156⟩:wAA)]).bind fun x1413 =>
        some (.inl (l1161,x1164,x1165,x1413,x1166)))
      else
       esc ((app 56 l1034 [(⟨x1064,l1152,l1156⟩:wAA)]).bind fun x1464 =>
       some (.inl (l1161,x1164,x1165,x1464,x1166)))) big ([],[],x1065.bytes,x1065.next,x1065.state,x1039,0)
    else
     esc (some (l1029,x1032,x1033,l1034))) big (x370.bytes,x370.next,x370.state,[],w64 ((↑p.Classes.length:Int) * p.Laps))).bind fun (l985,x988,x989,l990) =>
   (app 56 l97 [(⟨w64 ((w64 (9 * (↑k102:Int))) + x131),y212,l990⟩:wAD)]).bind fun x1537 =>
   some (l985,x988,x989,x1537)) (fun k s=>wCg ⟨s.1,s.2.1,s.2.2.1⟩ (N + 20 + 400 * (k:Int))/\s.2.2.2.length=k/\(∀ t ∈ s.2.2.2,wLG p t)/\(s.2.2.2.map (·.Bib)).Nodup/\∀ t ∈ s.2.2.2,t.Bib <= 9 * (k:Int)) n 0 (d3.bytes,d3.next,d3.state,[]) ⟨⟨g3.1,by have:=g3.2;simp only;omega⟩,rfl,fun t ht=>by simp at ht,by simp,fun t ht=>by simp at ht⟩
  (by
   rintro k ⟨B,x,s,tm⟩ _ hk ⟨i1,i2,i3,i4,i5⟩
   simp only at i1 i2 i3 i4 i5 ⊢
   obtain ⟨b,f1,q1,y1,y2,y3⟩:=wIK i1 (by omega) (a:=1) (b:=9) (by omega) (by omega) (by omega)
   rw [q1,hM];simp only
   obtain ⟨nc,f2,q2,y4,y5,y6⟩:=wIK y1 (by omega) (a:=1) (b:=5) (by omega) (by omega) (by omega)
   rw [q2,hM];simp only
   obtain ⟨nn,rfl⟩:∃ n:Nat,nc=n:=⟨nc.toNat,by omega⟩
   obtain ⟨cs,q3,y7,y8,y9⟩:=wKt (n:=nn) (by omega) y4 (by omega)
   obtain ⟨cB,cx,cst,cl⟩:=cs
   simp only at y7 y8 y9
   rw [q3,hM];simp only
   obtain ⟨pace,f4,q4,z1,z2,z3⟩:=wIK y7 (by omega) (a:=300) (b:=900) (by omega) (by omega) (by omega)
   rw [q4,hM];simp only
   obtain ⟨coin,f5,q5,z4⟩:=wKs z1 (by omega) 4
   rw [q5,hM];simp only
   rw [y8]
   have hCL:w64 ((p.Classes.length:Int) * p.Laps)=((p.Classes.length * L:Nat):Int)/\p.Classes.length * L <= 12:=by
    have:p.Classes.length * L <= 4 * 3:=kT hcl.2 (by omega)
    rw [hL,show (p.Classes.length:Int) * (L:Int)=((p.Classes.length * L:Nat):Int) by rw [Int.natCast_mul],wAT (by omega) (by omega)]
    exact ⟨rfl,by omega⟩
   have fin:∀ (lg:List wAA) (d6:wAE),wCg d6 (N + 20 + 400 * ((k + 1:Nat):Int))->lg.length <= p.Classes.length->(∀ q,q + 1 < lg.length->((gd lg q).Loops.length:Int)=p.Laps)->(∀ l ∈ lg,wFN p ⟨9 * (k:Int) + b,cl,lg⟩ l) ->
     ∃ s',((app 56 tm [(⟨w64 ((w64 (9 * (↑k:Int))) + b),cl,lg⟩:wAD)]).bind fun x951=>some (d6.bytes,d6.next,d6.state,x951))=some s'/\wCg ⟨s'.1,s'.2.1,s'.2.2.1⟩ (N + 20 + 400 * ((k + 1:Nat):Int))/\s'.2.2.2.length=k + 1/\(∀ t ∈ s'.2.2.2,wLG p t)/\(s'.2.2.2.map (·.Bib)).Nodup/\∀ t ∈ s'.2.2.2,t.Bib <= 9 * ((k + 1:Nat):Int):=by
    intro lg d6 hd hlen hfull hgood
    rw [wAT (x:=9 * (k:Int)) (by omega) (by omega),wAT (by omega) (by omega),wDG (by simp;omega),hM]
    refine ⟨_,rfl,hd,by simp [i2],fun t ht=>?_,?_,fun t ht=>?_⟩
    ·rcases nJ.1 ht with ht | ht
     ·exact i3 t ht
     ·simp only [nS,nO,or_false] at ht
      subst ht
      exact ⟨by simp only;omega,by simp only;omega,y9,hlen,hfull,hgood⟩
    ·simp only [nQ,List.map_cons,List.map_nil]
     rw [np]
     refine ⟨i4,by simp,fun a ha c hc=>?_⟩
     obtain ⟨t,ht,rfl⟩:=nP.1 ha
     simp only [nS,nO,or_false] at hc
     have:=i5 t ht
     omega
    ·rcases nJ.1 ht with ht | ht
     ·have:=i5 t ht
      omega
     ·simp only [nS,nO,or_false] at ht
      subst ht
      simp only
      omega
   cases coin with
   | true =>
    rw [if_pos rfl,hCL.1,wAT (by omega) (by omega)]
    obtain ⟨td,f6,q6,z5,t0,t1⟩:=wGy z4 (by omega) (((p.Classes.length * L:Nat):Int) + 1)
    rw [q6,hM];simp only
    obtain ⟨T,rfl⟩:∃ T:Nat,td=T:=⟨td.toNat,by omega⟩
    obtain ⟨⟨wB,wx,ws,lg⟩,q7,w1,w2,w3,w4⟩:=wJb (p:=p) (C:=p.Classes.length) hL (by omega) (by omega) hcl.2 (pace:=pace) ⟨z2,z3⟩ (t:=⟨9 * (k:Int) + b,cl,[]⟩) (n:=nn) y8 (by omega) z5 (by omega) (T:=T) (by omega)
    rw [q7,hM];simp only at w1 w2 w3 w4 ⊢
    exact fin lg ⟨wB,wx,ws⟩ ⟨w1.1,by have:=w1.2;simp only at this ⊢;omega⟩ w2 w3 fun l hl=>⟨(w4 l hl).le,(w4 l hl).bouts,(w4 l hl).loops,(w4 l hl).skier,(w4 l hl).ok⟩
   | false =>
    rw [if_neg (by decide),hCL.1]
    obtain ⟨⟨wB,wx,ws,lg⟩,q7,w1,w2,w3,w4⟩:=wJb (p:=p) (C:=p.Classes.length) hL (by omega) (by omega) hcl.2 (pace:=pace) ⟨z2,z3⟩ (t:=⟨9 * (k:Int) + b,cl,[]⟩) (n:=nn) y8 (by omega) z4 (by omega) (T:=p.Classes.length * L) (kF _)
    rw [q7,hM];simp only at w1 w2 w3 w4 ⊢
    exact fin lg ⟨wB,wx,ws⟩ ⟨w1.1,by have:=w1.2;simp only at this ⊢;omega⟩ w2 w3 fun l hl=>⟨(w4 l hl).le,(w4 l hl).bouts,(w4 l hl).loops,(w4 l hl).skier,(w4 l hl).ok⟩)
 obtain ⟨sB,sx,ss,tm⟩:=s'
 rw [e,hM];simp only at i1 i2 i3 i4 i5 ⊢
 exact ⟨_,_,rfl,⟨gp,by simp only;omega,by simp only;omega,i3,i4⟩,hl3,by simp only;omega⟩
end Go.Proofs.YtnbcoenjobdplaaGreat
namespace Go.Proofs.YtnbcoenjobdplaaGreat
open Go.KL
theorem wIL {l:List Int} (h:l.length <= 1000):wBC l=some l:=by
 unfold wBC
 rw [wDG (by simp;omega)]
 rfl
theorem wLS {l:List Bool} (h:l.length <= 1000):wBg l=some l:=by
 unfold wBg
 rw [wDG (by simp;omega)]
 rfl
theorem wMc {l:List (List Bool)} (h:l.length <= 1000) (hb:∀ b ∈ l,b.length <= 1000):wBP l=some l:=by
 unfold wBP
 rw [wCu (fun k=>l.take k) (s0:=[]) (by simp) (by omega) fun k hk=>?_]
 ·rw [nE];rfl
 ·rw [wAu hk,hM,wLS (hb _ (wAe hk)),hM,wDG (by simp;omega),hM,wDq hk]
theorem wKH {p:wAJ} (h:p.Classes.length <= 1000):wBS p=some p:=by
 unfold wBS
 rw [wIL h]
 rfl
theorem wNM {r:wAI} (g:wFY r):wBo r=some r:=by
 unfold wBo
 have hn:=g.n;have hc:=g.rules.n;have hL:=g.rules.laps
 rw [wKH (by omega),hM,hM]
 simp only
 rw [wCu (fun k=>r.Teams.take k) (s0:=[]) (by simp) (by omega) fun i hi=>?_]
 ·rw [nE];rfl
 ·have ht:=g.team _ (wAe hi)
  have h1:=ht.n;have h2:=ht.legs
  rw [wAu hi,hM,wIL (by omega),hM,hM,wCu (fun k=>(gd r.Teams i).Legs.take k) (s0:=[]) (by simp) (by omega) fun k hk=>?_]
  ·rw [hM,nE,wDG (by simp;omega),hM,wDq hi]
  ·have hl:=ht.leg _ (wAe hk)
   have g1:=hl.le;have g2:=hl.bouts
   rw [wAu hk,hM,wIL (by omega),hM,wMc (by omega) (fun b hb=>by have:=(hl.ok b hb).2.1;omega),hM,wDG (by simp;omega),hM,wDq hk]
end Go.Proofs.YtnbcoenjobdplaaGreat
namespace Go.Proofs.YtnbcoenjobdplaaGreat
open Go.KL
theorem wOE {r:wAI} (g:wFY r):wDs r=some (wDN r,0):=by
 unfold wDs
 rw [wIq g]
 simp only [hM,if_true]
 rw [wMK g,hM]
end Go.Proofs.YtnbcoenjobdplaaGreat
namespace Go.Proofs.YtnbcoenjobdplaaGreat
open Go.KL
theorem foldL (v:Int) {n:Int} (h1:1 <= n) (h2:n <= 100000):∃ x,wCZ v n=some x/\0 <= x/\x < n:=by
 unfold wCZ
 rw [if_neg (by omega),rem,if_neg (by omega),hM]
 have a1:=Int.lt_tmod_of_pos v (show 0 < n by omega)
 have a2:=Int.tmod_lt_of_pos v (show 0 < n by omega)
 rw [wAT (by omega) (by omega)]
 obtain ⟨x,e,x0,x1⟩:=wKr (a:=v.tmod n + n) (b:=n) (by omega) (by omega)
 rw [e]
 exact ⟨x,rfl,x0,x1⟩
def slK (p1:Int) (k97 k159:Nat) (l158:List (List Int)):Option (List (List Int)) :=
      (chk (↑k159:Int) (gd l158 k97).length).bind fun _ =>
      (wCZ p1 4000).bind fun x211 =>
      some (nD l158 k97 (nD (gd l158 k97) k159 (min 9000 (w64 ((gd (gd l158 k97) k159) + x211)))))
def slL (p1:Int) (x57:wAD) (k97:Nat) (l96:List (List Int)):Option (List (List Int)) :=
  (idx x57.Legs (↑k97:Int)).bind fun _ =>
  (wBc 0 (↑((gd l96 k97).length):Int) (slK p1 k97) l96).bind fun y164 =>
  some y164
def wPC (n:Nat) (y:List Int):Prop:=y.length=n/\∀ x ∈ y,1 <= x/\x <= 9000
theorem sl_is (p1:Int) {t:wAD} (hl:t.Legs.length <= 100) (h:∀ i,i < t.Legs.length->wPC (gd t.Legs i).Loops.length (gd t.Legs i).Loops/\(gd t.Legs i).Loops.length <= 100) :
  ∃ y,wBc 0 (↑t.Legs.length:Int) (slL p1 t) (kf (fun x=>x.Loops) t.Legs)=some y/\y.length=t.Legs.length/\∀ i,i < t.Legs.length->wPC (gd t.Legs i).Loops.length (gd y i):=by
 obtain ⟨f,ef,f0,f1⟩:=foldL p1 (n:=4000) (by omega) (by omega)
 refine wDe (body:=slL p1 t) (n:=t.Legs.length) (s0:=kf (fun x=>x.Loops) t.Legs) (fun _ y=>y.length=t.Legs.length/\∀ i,i < t.Legs.length->wPC (gd t.Legs i).Loops.length (gd y i)) (by omega)
  ⟨by simp,fun i hi=>by rw [wFE _ hi];exact (h i hi).1⟩ (fun k y hk ⟨y1,y2⟩=>?_)
 have hL:=(h k hk).2
 unfold slL
 rw [wAu hk,hM,(y2 k hk).1]
 obtain ⟨z,e,z1,z2⟩:=wDe (body:=slK p1 k) (n:=(gd t.Legs k).Loops.length) (s0:=y) (fun _ y=>y.length=t.Legs.length/\∀ i,i < t.Legs.length->wPC (gd t.Legs i).Loops.length (gd y i)) (by omega)
  ⟨y1,y2⟩ (fun q z hq ⟨z1,z2⟩=>by
   have hz:=z2 k hk
   have hb:=hz.2 _ (wAe (l:=gd z k) (k:=q) (by rw [hz.1];exact hq))
   unfold slK
   rw [wEe (by omega) (by rw [hz.1];omega),hM,ef,hM,wAT (by omega) (by omega)]
   refine ⟨_,rfl,by simp [z1],fun i hi=>?_⟩
   rw [wKi (by omega) (by omega)]
   by_cases e:i=k
   ·subst e
    rw [if_pos rfl]
    refine ⟨by rw [nW];exact hz.1,fun x hx=>?_⟩
    rcases kL hx with hx | hx
    ·exact hz.2 x hx
    ·rw [hx];omega
   ·rw [if_neg e];exact z2 i hi)
 rw [e,hM]
 exact ⟨z,rfl,z1,z2⟩
def wOY (x:wAA) (l:List Int):wAA:=⟨x.Skier,l,x.Bouts⟩
def wMd (r:wAI) (y:List (List Int)):wAI:=⟨r.Rules,r.Start,r.Teams.set 0 ⟨(gd r.Teams 0).Bib,(gd r.Teams 0).Classes,nR wOY (gd r.Teams 0).Legs y⟩⟩
theorem wNa {xs:List wAA} {y:List (List Int)} (hl:y.length=xs.length) {i:Nat} (hi:i < xs.length):gd (nR wOY xs y) i=wOY (gd xs i) (gd y i):=by
 rw [wCk (by simp;omega),List.getElem_zipWith,<- wCk hi,<- wCk (by omega)]
theorem wOF {r:wAI} (g:wFY r) {y:List (List Int)} (hl:y.length=(gd r.Teams 0).Legs.length) (hy:∀ i,i < (gd r.Teams 0).Legs.length->wPC (gd (gd r.Teams 0).Legs i).Loops.length (gd y i)):wFY (wMd r y):=by
 have hn:=g.n
 have h0:0 < r.Teams.length:=by omega
 have gt:=g.team _ (wAe h0)
 have hzl:(nR wOY (gd r.Teams 0).Legs y).length=(gd r.Teams 0).Legs.length:=by simp;omega
 have gN:wLG r.Rules ⟨(gd r.Teams 0).Bib,(gd r.Teams 0).Classes,nR wOY (gd r.Teams 0).Legs y⟩:=by
  refine ⟨gt.bib,gt.n,gt.cls,by rw [hzl];exact gt.legs,fun k hk=>?_,fun l hm=>?_⟩
  ·rw [hzl] at hk
   rw [wNa hl (by omega)]
   show ((gd y k).length:Int)=_
   rw [(hy k (by omega)).1]
   exact gt.full k hk
  ·obtain ⟨i,hi,e⟩:=nB hm
   rw [hzl] at hi
   rw [<- wCk (by rw [hzl];exact hi),wNa hl hi] at e
   have gl:=gt.leg _ (wAe hi)
   have q:=hy i hi
   rw [<- e]
   exact ⟨by show ((gd y i).length:Int) <= _;rw [q.1];exact gl.le,by show (gd (gd r.Teams 0).Legs i).Bouts.length=(gd y i).length - 1;rw [q.1];exact gl.bouts,q.2,gl.skier,gl.ok⟩
 have hlen:(wMd r y).Teams.length=r.Teams.length:=nW
 refine ⟨g.rules,by rw [hlen];exact hn,g.start,fun t ht=>?_,?_⟩
 ·rcases kL ht with ht | ht
  ·exact g.team t ht
  ·rw [ht];exact gN
 ·have e:(wMd r y).Teams.map (·.Bib)=r.Teams.map (·.Bib):=by
   refine wNY (by simp [hlen]) fun q hq=>?_
   rw [nH,hlen] at hq
   rw [wFE _ (by rw [hlen];exact hq),wFE _ hq]
   show (gd (nD r.Teams 0 _) q).Bib=_
   rw [wKi h0 hq]
   by_cases c:q=0
   ·subst c;rw [if_pos rfl]
   ·rw [if_neg c]
  rw [e];exact g.bibs
theorem wIe {α:Type} [Inhabited α] {p:α->Bool}:∀ {l:List α} {j:Nat},(∃ x ∈ l,p x=true)->∃ k,k < l.length/\first p l j=((k + j:Nat):Int)/\p (gd l k)=true
 | [],_,⟨_,h,_⟩=>by cases h
 | a :: l,j,⟨x,hx,px⟩=>by
  rw [first]
  by_cases c:p a=true
  ·rw [if_pos c]
   exact ⟨0,by simp,by simp,c⟩
  ·rw [if_neg c]
   have hx':x ∈ l:=by
    rcases nS.1 hx with e | h
    ·exact absurd (e ▸ px) c
    ·exact h
   obtain ⟨k,k1,k2,k3⟩:=wIe (l:=l) (j:=j + 1) ⟨x,hx',px⟩
   exact ⟨k + 1,by simpa using k1,by rw [k2];omega,k3⟩
theorem wKI {A:List wAH} (hA:A.length <= 1000000) (t:wAD):wAY A (fun x=>wAg x t)=some (wEr A t):=by
 unfold wAY wAv
 have:=wFM (R:=Int) (l:=A) (f:=fun x=>wAg x t) (p:=fun o=>decide (o.Bib=t.Bib)) (fun a _=>rfl) (by omega) id
 simp only [id] at this
 rw [this,hM,wFx]
 rfl
theorem wNN {l:List wAB} (hl:l.length <= 1000000) (o:wAH):wAV l (fun x=>wAh x o)=some (first (fun x=>decide (x.Bib=o.Bib)) l 0):=by
 unfold wAV
 have:=wFM (R:=Int) (l:=l) (f:=fun x=>wAh x o) (p:=fun x=>decide (x.Bib=o.Bib)) (fun a _=>rfl) (by omega) id
 simp only [id] at this
 rw [this]
def leB (T:List wAD) (A:List wAH) (k477:Nat) (l472:List wAD):Option (List wAD) :=
              (idx T (↑k477:Int)).bind fun x503 =>
              (wAY A (fun x=>wAg x x503)).bind fun x539 =>
              if x539=true then
                some l472
              else
                (app 56 l472 [x503]).bind fun x567 =>
                some x567
theorem wOG {r:wAI} (hn:r.Teams.length <= 12) {A:List wAH} (hA:A.length <= 100000):wBc 0 (↑r.Teams.length:Int) (leB r.Teams A) []=some (wFO r A).Teams:=by
 rw [wCu (S:=List wAD) (n:=r.Teams.length) (fun k=>(r.Teams.take k).filter fun t=>!wEr A t) (s0:=[]) rfl (by omega) fun k hk=>?_]
 ·rw [nE];rfl
 ·have hle:=nV (fun t=>!wEr A t) (r.Teams.take k)
  rw [nY] at hle
  unfold leB
  rw [wAu hk,hM,wKI (by omega),hM,wDq hk,kI]
  by_cases c:wEr A (gd r.Teams k)=true
  ·rw [if_pos c];simp [c]
  ·rw [if_neg c,wDG (by simp only [nI,nU];omega),hM]
   have c':wEr A (gd r.Teams k)=false:=by simpa using c
   simp [c']
def ouB (x318:List wAH) (x334:List wAB) (k615:Nat) (_:Unit):Option (Unit ⊕ Bool) :=
              (idx x318 (↑k615:Int)).bind fun x636 =>
              (wAV x334 (fun x=>wAh x x636)).bind fun x663 =>
              if x663 < 0 then
                esc (some false)
              else
                (idx x334 x663).bind fun x679 =>
                if x679.Place=0 then
                  some (.inl ())
                else
                  esc (some false)
def agB (x334 x739:List wAB) (k762:Nat) (_:Unit):Option (Unit ⊕ Bool) :=
                      (chk (↑k762:Int) x739.length).bind fun _ =>
                      if 0 < ((gd x739 k762).Place) then
                        if (↑x334.length:Int) <= (↑k762:Int) then
                          esc (some false)
                        else
                          (idx x334 (↑k762:Int)).bind fun x804 =>
                          if x804=(gd x739 k762) then
                            some (.inl ())
                          else
                            esc (some false)
                      else
                        some (.inl ())
theorem wJc {rs:List Rc} {F O:List wAB} (P:wOX rs F O) {x:wAB} (h:x ∈ O):x.Place=0:=by
 obtain ⟨y,_,e⟩:=nP.1 (P.op.mem_iff.1 h)
 rw [<- e];rfl
theorem wJd {F O:List wAB} {k:Nat} (hk:k < (wEB F ++ O).length):(k < F.length/\gd (wEB F ++ O) k=⟨(gd F k).Bib,plc F k,(gd F k).Time⟩) \/ (F.length <= k/\gd (wEB F ++ O) k ∈ O):=by
 by_cases c:k < F.length
 ·left
  refine ⟨c,?_⟩
  rw [wGE (by rw [wDP];exact c),wJY c]
 ·right
  refine ⟨by omega,?_⟩
  rw [wCk hk,List.getElem_append_right (by rw [wDP];omega)]
  exact List.getElem_mem _
theorem wOH {r:wAI} (g:wFY r) {D:List Int} {A:List wAH} {τ:Nat->Option Int} (R:wNz (wDN r) D A τ) {F O:List wAB} (P:wOX (wFy r A D) F O):wEs 0 (↑A.length:Int) (ouB A (wEB F ++ O)) ()=some (.inl ()):=by
 have hal:=R.al
 have hn:=g.n
 have hF:=P.fp.length_eq;have hO:=P.op.length_eq
 have h1:=wGw (wFy r A D);have h2:=wGx (wFy r A D)
 have h3:=wFa r A D
 refine wEA (by omega) fun q hq=>?_
 have hom:=wAe hq
 obtain ⟨i,hi,E⟩:=R.ents.of _ hom
 rw [wDK] at hi
 have hb:(gd A q).Bib=(gd r.Teams i).Bib:=E.bib.trans (wFE _ hi)
 have hout:wEr A (gd r.Teams i)=true:=List.any_eq_true.2 ⟨_,hom,decide_eq_true hb⟩
 have hmem:othR (wJW r A D i) ∈ O:=by
  refine P.op.mem_iff.2 (nP.2 ⟨wJW r A D i,ng.2 ⟨nP.2 ⟨i,by simpa using hi,rfl⟩,?_⟩,rfl⟩)
  have:(wJW r A D i).fin=false:=by
   unfold wJW
   have:(A.any fun o=>decide (o.Bib=(gd r.Teams i).Bib))=true:=hout
   simp [this]
  rw [this];rfl
 obtain ⟨k,k1,k2,k3⟩:=wIe (p:=fun x:wAB=>decide (x.Bib=(gd A q).Bib)) (l:=wEB F ++ O) (j:=0) ⟨_,kS _ hmem,decide_eq_true hb.symm⟩
 have k3:=of_decide_eq_true k3
 unfold ouB
 rw [wAu hq,hM,wNN (by rw [nL,wDP];omega),hM,k2,if_neg (by omega),Nat.add_zero,wAu k1,hM]
 rcases wJd k1 with ⟨c,e⟩ | ⟨_,e⟩
 ·exfalso
  have hf:=P.fp.mem_iff.1 (wAe c)
  rw [wGF] at hf
  obtain ⟨t,ht,et⟩:=nP.1 hf
  obtain ⟨ht1,ht2⟩:=ng.1 ht
  have hbt:t.Bib=(gd A q).Bib:=by
   rw [e] at k3
   rw [<- k3,<- et];rfl
  have:wEr A t=true:=List.any_eq_true.2 ⟨_,hom,decide_eq_true hbt.symm⟩
  rw [this] at ht2
  simp at ht2
 ·rw [if_pos (wJc P e)]
theorem wNO {rs rs':List Rc} {F O O':List wAB} (hl:(wEB F ++ O).length <= 1000) (hl':(wEB F ++ O').length <= 1000) (P':wOX rs' F O'):wEs 0 (↑(wEB F ++ O').length:Int) (agB (wEB F ++ O) (wEB F ++ O')) ()=some (.inl ()):=by
 refine wEA (by omega) fun k hk=>?_
 unfold agB
 rw [wEe (by omega) (by omega),hM]
 rcases wJd hk with ⟨c,e⟩ | ⟨_,e⟩
 ·have pr:=wJZ F k
  have hk2:k < (wEB F ++ O).length:=by rw [nL,wDP];omega
  have e2:gd (wEB F ++ O) k=gd (wEB F ++ O') k:=by
   rw [wGE (by rw [wDP];exact c),wGE (by rw [wDP];exact c)]
  rw [if_pos (by rw [e];show 0 < plc F k;omega),if_neg (by omega),wAu hk2,hM,if_pos e2]
 ·rw [if_neg (by rw [wJc P' e];omega)]
def wMi:wAI:=⟨⟨[0,1],1,2,100,250,1200⟩,0,[⟨7,[0,1],[⟨0,[1000,1100],[[true,false,true,true,true,true]]⟩,⟨1,[900,950],[[true,true,true,true,false,false,false,false]]⟩]⟩,⟨3,[1,0],[⟨1,[1000,1150],[[true,true,true,true,true]]⟩,⟨0,[900,1500],[[false,true,true,true,true]]⟩]⟩]⟩
theorem wPD:wBh=some wMi:=by decide +kernel
theorem wNb:wFY wMi:=by
 refine ⟨⟨by decide,by decide,by decide,by decide,by decide,by decide,by decide⟩,by decide,by decide,fun t ht=>?_,by decide⟩
 simp only [wMi,nS,nO,or_false] at ht
 rcases ht with rfl | rfl
 ·refine ⟨by decide,by decide,by decide,by decide,fun k hk=>?_,fun l hl=>?_⟩
  ·simp only [nI,nU] at hk
   have:k=0:=by omega
   subst this;rfl
  ·simp only [nS,nO,or_false] at hl
   rcases hl with rfl | rfl <;> exact ⟨by decide,by decide,by decide,by decide,fun b hb=>by simp only [nS,nO,or_false] at hb;subst hb;exact ⟨by decide,by decide,_,rfl⟩⟩
 ·refine ⟨by decide,by decide,by decide,by decide,fun k hk=>?_,fun l hl=>?_⟩
  ·simp only [nI,nU] at hk
   have:k=0:=by omega
   subst this;rfl
  ·simp only [nS,nO,or_false] at hl
   rcases hl with rfl | rfl <;> exact ⟨by decide,by decide,by decide,by decide,fun b hb=>by simp only [nS,nO,or_false] at hb;subst hb;exact ⟨by decide,by decide,_,rfl⟩⟩
theorem wOI:wAy wMi=some ([⟨7,1,4600⟩,⟨3,2,8400⟩],0):=by
 obtain ⟨p,A,τ,e1,R⟩:=wMO (wLO wNb).g
 obtain ⟨F,O,e2,P⟩:=wHR wNb e1 R
 have hA:A=[]:=by
  have none:∀ i,i < 2->τ i=none:=fun i hi=>by
   cases e:τ i with
   | none=>rfl
   | some s =>
    obtain ⟨l,hl,hs⟩:=R.in_ i s hi e
    obtain ⟨q,hq,eq⟩:=nB hl
    rw [<- wCk hq] at eq
    obtain ⟨k,hk,_,_,k3⟩:=(R.ex i hi q hq s (by rw [eq];exact hs) (fun s' h'=>by rw [e] at h';cases h';exact nN _)).1 e
    have all:∀ l ∈ (wDN wMi).Times,∀ s ∈ l,∀ i,i < 2->∀ k,k < 2->¬ cn (gd (wDN wMi).Times i) s + 2 <= cn (gd (wDN wMi).Times k) s:=by decide +kernel
    exact absurd k3 (all l hl s hs i hi k hk)
  cases hA:A with
  | nil=>rfl
  | cons o B =>
   obtain ⟨i,hi,E⟩:=R.ents.of o (by rw [hA];simp)
   have:=none i hi
   rw [E.time] at this
   cases this
 subst hA
 have hf:wJX (wFy wMi [] p.done)=[⟨7,0,4600⟩,⟨3,0,8400⟩]:=by rw [wGF];decide +kernel
 have eF:F=[⟨7,0,4600⟩,⟨3,0,8400⟩]:=by
  refine wIc P.fo ?_ (P.fp.trans (kg hf))
  decide +kernel
 have eO:O=[]:=by
  have h1:=P.op.length_eq
  have h2:(wJX (wFy wMi [] p.done)).length + (wKq (wFy wMi [] p.done)).length=2:=by
   have:∀ l:List Rc,(l.filter fun x=>x.fin).length + (l.filter fun x=>!x.fin).length=l.length:=fun l=>by
    induction l with
    | nil=>rfl
    | cons a l ih=>cases h:a.fin <;> simp [h] <;> omega
   unfold wJX wKq
   rw [nH,nH,this,wFa]
   rfl
  rw [hf] at h2
  exact List.eq_nil_of_length_eq_zero (by rw [h1];simp only [nI,nU] at h2;omega)
 rw [e2,eF,eO]
 decide +kernel
theorem wNP:wBp=some true:=by
 unfold wBp
 simp only [wPD,hM,wOI]
 decide +kernel
noncomputable def wKJ (R:wAI):Option Bool :=
 (wDs R).bind fun (x290,x291) =>
 (wDH R).bind fun (x318,x319) =>
 (wAy R).bind fun (x334,x335) =>
 if x291=0 then
  if x319=0 then
   if x335=0 then
    (wCG x290).bind fun (x368,x369) =>
    if x369=0 then
     (wBF x318 x368).bind fun x402 =>
     if x402=true then
      (wBo R).bind fun x428 =>
      (wBc 0 (↑(R.Teams.length):Int) (leB R.Teams x318) []).bind fun y482 =>
      jn (wEs 0 (↑x318.length:Int) (ouB x318 x334) ()) fun _ =>
      if (↑y482.length:Int)=0 then
       some false
      else
       (wDH (⟨x428.Rules,x428.Start,y482⟩:wAI)).bind fun (x723,x724) =>
       (wAy (⟨x428.Rules,x428.Start,y482⟩:wAI)).bind fun (x739,x740) =>
       if x724=0 then
        if x740=0 then
         if 0 < (↑x723.length:Int) then
          some false
         else
          jn (wEs 0 (↑x739.length:Int) (agB x334 x739) ()) fun _ =>
          (wBp).bind fun x836 =>
          some x836
        else
         some false
       else
        some false
     else
      some false
    else
     some false
   else
    some false
  else
   some false
 else
  some false
theorem wIt (p0:List Int) (p1:Int):wBx p0 p1 =
 (wDZ p0).bind fun x1 =>
 (wCA x1 8 4).bind fun (x16,_) =>
 (idx x16.Teams 0).bind fun x57 =>
 (wBc 0 (↑x57.Legs.length:Int) (slL p1 x57) (kf (fun x=>x.Loops) x57.Legs)).bind fun y102 =>
 wKJ ⟨x16.Rules,x16.Start,(nD x16.Teams 0 (⟨x57.Bib,x57.Classes,(nR wOY x57.Legs y102)⟩:wAD))⟩:=rfl
theorem wLT (p0:List Int) (p1:Int) (_:-9223372036854775808 <= p1) (_:p1 <= 9223372036854775807):wBx p0 p1=some true:=by
 rw [wIt]
 unfold wDZ
 rw [hM]
 obtain ⟨r,d',e0,g,_,_⟩:=wOD (d:=(⟨p0,0,17⟩:wAE)) (N:=0) ⟨by simp,by simp⟩ (by omega) (m:=8) (q:=4) (by omega) (by omega)
 have hn:=g.n
 have h0:0 < r.Teams.length:=by omega
 have gt:=g.team _ (wAe h0)
 have hc:=g.rules.n;have hL:=g.rules.laps;have hlg:=gt.legs
 rw [e0,hM]
 simp only
 have hi:idx r.Teams 0=some (gd r.Teams 0):=wAu (k:=0) h0
 rw [hi,hM]
 obtain ⟨y,e1,y1,y2⟩:=sl_is p1 (t:=gd r.Teams 0) (by omega) (fun i hi=>by
  have gl:=gt.leg _ (wAe hi)
  have:=gl.le
  exact ⟨⟨rfl,gl.loops⟩,by omega⟩)
 rw [e1,hM]
 have gR:=wOF g y1 y2
 show wKJ (wMd r y)=_
 generalize wMd r y=R at gR
 unfold wKJ
 obtain ⟨p,A,τ,e2,Q⟩:=wMO (wLO gR).g
 obtain ⟨F,O,e3,P⟩:=wHR gR e2 Q
 have hnR:=gR.n
 have lF:=P.fp.length_eq;have lO:=P.op.length_eq
 have l1:=wGw (wFy R A p.done);have l2:=wGx (wFy R A p.done);have l3:=wFa R A p.done
 rw [wOE gR,hM]
 simp only
 rw [wNZ gR e2,hM]
 simp only
 rw [e3,hM]
 simp only
 have hal:=Q.al
 rw [if_pos trivial,if_pos trivial,if_pos trivial,wIH (wLO gR) e2,hM]
 simp only
 have eqA:wBF A A=some true:=wLJ (by omega)
 rw [if_pos trivial,eqA,hM,if_pos rfl,wNM gR,hM,wOG hnR.2 Q.al,hM,wOH gR Q P,wHl]
 have hleft:=wMa gR Q
 rw [if_neg (by omega)]
 have gL:=wOA gR hleft
 obtain ⟨p',A',τ',e4,Q'⟩:=wMO (wLO gL).g
 obtain ⟨F',O',e5,P'⟩:=wHR gL e4 Q'
 have eA:=wMZ Q Q'
 subst eA
 have eF:=wNH gR P P'
 subst eF
 have lF':=P'.fp.length_eq;have lO':=P'.op.length_eq
 have l1':=wGw (wFy (wFO R A) [] p'.done);have l2':=wGx (wFy (wFO R A) [] p'.done);have l3':=wFa (wFO R A) [] p'.done
 have hnL:=gL.n
 show ((wDH (wFO R A)).bind _)=_
 rw [wNZ gL e4,hM]
 simp only
 show ((wAy (wFO R A)).bind _)=_
 rw [e5,hM]
 simp only
 rw [if_pos trivial,if_pos trivial,if_neg (by simp),wNO (rs:=wFy R A p.done) (by rw [nL,wDP];omega) (by rw [nL,wDP];omega) P',wHl,wNP]
 rfl
end Go.Proofs.YtnbcoenjobdplaaGreat
