import Derived.Test.YtnbcoenjobdplaaGreatC2
import Derived.Test.YtnbcoenjobdplaaGreatC0
import Derived.Lib.SlicesCompact
import Derived.Test.YtnbcoenjobdplaaGreatC1
set_option linter.all false
open Option renaming bind_some->hD
open List renaming replicate->nA,range->nB,length_cons->nD,length_replicate->nE,set->nG,length_append->nH,length_nil->nI,mem_append->nJ,length_map->nK,map_append->nL,length_take->nM,length_singleton->nO,mem_singleton->nP,mem_map->nR,all_eq_true->nS,mem_range->nT,append_assoc->nV,flatMap->nY,take_length->nZ,cons_append->na,range_succ->nf,length_range->ng,not_mem_nil->nh,mem_cons->ni,all_cons->nj,mem_of_mem_take->nl,getElem?_take->np,getD_eq_getElem?_getD->nq,getElem?_append_right->nu,nodup_append->ny,countP_congr->nz,getElem?_append_left->kA,all_nil->kD,getElem?_eq_getElem->kE,nil_append->kF,sum_replicate_nat->kG,getElem_replicate->kH,drop_eq_nil_of_le->kI,range_eq_range'->kL,replicate_succ'->kM,length_flatMap->kO,map_congr_left->kP,mem_cons_self->kS,filter_append->kT,countP_append->kU,mem_replicate->kV,flatMap_cons->kW
open Int renaming toNat_of_nonneg->nN,toNat_natCast->nQ,sub_add_cancel->nb,tmod_eq_emod_of_nonneg->nw,le_trans->kB,add_comm->kC,mul_nonneg->kJ,mul_le_mul->kK
open Bool renaming and_eq_true->nU,false_eq_true->nW,and_true->nv
open Nat renaming le_refl->nX,mul_le_mul->nk,zero_add->nm,le_trans->kQ,add_mul->kX
open Go.Value renaming int->kR
namespace Go.KL
open Go.RowKit Go.Lib Go.Sort
def wKT (l:List Int):Option (List Int):=if l.length < 4611686018427387904 then some (Go.Lib.compact l) else none
theorem wLs (l:List Int):(Go.Lib.compact l).length <= l.length:=by
 unfold Go.Lib.compact Go.Lib.compactUpTo
 rw [nK]
 exact kQ (List.length_filter_le _ _) (by simp)
theorem wLt {P:Program} {f T:Nat} {A:Option Addr} {c:Nat} {p r:List Int} {w:World} {U:PHeap}
  (H:∀ (blk off cap:Nat) (zs:List Int) (w:World),Go.Sort.Holds (kR .i64) w blk off zs.toArray->zs.length <= 9223372036854775807->zs.length <= cap->Calls P f #[.slice (some ⟨blk,off,none⟩) zs.length cap] w fun e w'=>e=.returned (.slice (some ⟨blk,off,none⟩) (Go.Lib.compact zs).length cap)/\∃ q,w'=Go.Sort.putRow (kR .i64) (Go.Sort.ahead w q) blk off (Go.Lib.compact zs ++ nA (zs.length - (Go.Lib.compact zs).length) 0).toArray)
  (HN:∀ (p:Option Addr) (cap:Nat) (w:World),Calls P f #[.slice p 0 cap] w fun e w'=>e=.returned (.slice p 0 cap)/\w'=w)
  (hS:St ⟨w,[.row A c T 1 (nY encI p)],U⟩ U [.row A c T 1 (nY encI p)] w) (hm:wKT p=some r) :
  Gv P f [.slice A p.length c] w (wBD w [.row A c T 1 (nY encI p)] U fun U_ L_ v=>∃ (A0:Option Addr) (c0:Nat),v=.slice A0 r.length c0/\L_=[.row A0 c0 T 1 (nY encI r)]):=by
 unfold wKT at hm
 split at hm
 ·rename_i hlen
  cases hm
  have hfl:∀ l:List Int,l.flatMap encI=l.map (kR .i64):=fun l=>wJF l
  have hr:=hS.at_ _ (kS ..)
  have nil:p=[]->Gv P f [.slice A p.length c] w (wBD w [.row A c T 1 (nY encI p)] U fun U_ L_ v=>∃ (A0:Option Addr) (c0:Nat),v=.slice A0 (Go.Lib.compact p).length c0/\L_=[.row A0 c0 T 1 (nY encI (Go.Lib.compact p))]):=by
   rintro rfl
   refine Calls.mono' (HN A c w) ?_
   rintro e w' ⟨rfl,rfl⟩
   exact ⟨_,rfl,U,_,hS,A,c,rfl,rfl⟩
  rcases hr with ⟨rfl,rfl,h0⟩ | ⟨b,cur,rfl,h1,h2,_⟩
  ·refine nil ?_
   rw [hfl] at h0
   simpa using h0
  ·obtain ⟨g1,g2⟩:=hS.holds (k:=0) rfl
   rw [hfl] at g1 h2
   refine Calls.mono' (H b 0 c p w (wKz _ _ _ _ _ (by simpa using g1)) (by omega) (by simpa using h2)) ?_
   rintro e w' ⟨rfl,n,rfl⟩
   have hl:=wLs p
   have s1:=hS.sorted (k:=0) (n:=n) (os:=#[]) (cs':=(Go.Lib.compact p ++ nA (p.length - (Go.Lib.compact p).length) 0).map (kR .i64)) rfl (by rw [hfl];simp;omega)
   have e0:∀ x:World,Go.Sort.grow x #[]=x:=fun x=>by simp [Go.Sort.grow]
   rw [e0,nL] at s1
   have s2:=s1.cutRow (k:=0) rfl
   refine ⟨_,rfl,U,[.row (some ⟨b,0,none⟩) c T 1 (nY encI (Go.Lib.compact p))],?_,_,c,rfl,rfl⟩
   rw [wKH,hfl (Go.Lib.compact p)]
   simpa using s2
 ·cases hm
end Go.KL
namespace Go.Proofs.YtnbcoenjobdplaaGreat
open Go.KL
noncomputable section
structure wAC where
 bytes:List Int
 next:Int
 state:Int
deriving DecidableEq,Inhabited,Repr
structure wAL where
 Classes:List Int
 Each:Int
 Laps:Int
 Spare:Int
 Loop:Int
 Unused:Int
deriving DecidableEq,Inhabited,Repr
structure wAM where
 Skier:Int
 Loops:List Int
 Bouts:List (List Bool)
deriving DecidableEq,Inhabited,Repr
structure wAN where
 Bib:Int
 Classes:List Int
 Legs:List wAM
deriving DecidableEq,Inhabited,Repr
structure wAZ where
 Rules:wAL
 Start:Int
 Teams:List wAN
deriving DecidableEq,Inhabited,Repr
structure wAT where
 of:(wAL->Option Int)
 lo:Int
 hi:Int
structure wAi where
 Spares:Int
 Loops:Int
 Unused:Int
deriving DecidableEq,Inhabited,Repr
structure wDo where
 Race:wAZ
 after:List (List Int)
deriving DecidableEq,Inhabited,Repr
structure wAk where
 Laps:Int
 Bibs:List Int
 Times:List (List Int)
deriving DecidableEq,Inhabited,Repr
structure wAs where
 Race:wAk
 done:List Int
 out:List Bool
deriving DecidableEq,Inhabited,Repr
structure wAl where
 Bib:Int
 Done:Int
 Time:Int
 By:Int
deriving DecidableEq,Inhabited,Repr
structure wAE where
 Bib:Int
 Place:Int
 Time:Int
deriving DecidableEq,Inhabited,Repr
structure wBX where
 Classes:List Int
 Times:List (List Int)
deriving DecidableEq,Inhabited,Repr
structure wAp where
 Squad:wBX
 rules:wAL
deriving DecidableEq,Inhabited,Repr
structure wAD where
 Lo:Int
 Hi:Int
deriving DecidableEq,Inhabited,Repr
structure wAR where
 Offset:wAD
 Error:Int
deriving DecidableEq,Inhabited,Repr
structure wAP where
 Skier:Int
 Mat:Int
 Clock:Int
 Time:Int
deriving DecidableEq,Inhabited,Repr
structure wAF where
 Starts:List Int
 Splits:List wAD
 Clocks:List wAR
 Readings:List wAP
deriving DecidableEq,Inhabited,Repr
structure wAa where
 Skier:Int
 Mat:Int
deriving DecidableEq,Inhabited,Repr
structure wAK where
 skier:Int
 mat:Int
deriving DecidableEq,Inhabited,Repr
structure wAO where
 Kind:Int
 Skier:Int
 Index:Int
 Up:Bool
deriving DecidableEq,Inhabited,Repr
structure wAm where
 step:wAO
 from_:Int
 to_:Int
 count:Int
deriving DecidableEq,Inhabited,Repr
structure wAu where
 Race:wAF
 number:List (wAK × Int)
 edges:List wAm
structure wER where
 far:List Int
 by_:List Int
deriving DecidableEq,Inhabited,Repr
def wCM (p0:List Int):Option (wAC) :=
 some (⟨p0,0,17⟩:wAC)
def wAQ (p0:wAC) (p1:Int):Option (Int × wAC) :=
 if p1 <= 1 then
 some (0,p0)
 else
 if (↑p0.bytes.length:Int)=0 then
 some (0,p0)
 else
 (rem p0.next (↑p0.bytes.length:Int)).bind fun x10 =>
 (idx p0.bytes x10).bind fun x13 =>
 (quo p0.next (↑p0.bytes.length:Int)).bind fun x20 =>
 (rem (wGc ((wGc ((wGc ((wGc (p0.state * 45)) + (wGc x13))) + (wGc (77 * (wGc x20))))) + 1)) 65519).bind fun x32 =>
 if (wGc x20)=0 then
 if p1 <= 256 then
 (rem (w64 (wGc x13)) p1).bind fun x42 =>
 some (x42,(⟨p0.bytes,w64 (p0.next + 1),x32⟩:wAC))
 else
 (rem (w64 (wGc ((wGc (x32 * 256)) + (wGc x13)))) p1).bind fun x46 =>
 some (x46,(⟨p0.bytes,w64 (p0.next + 1),x32⟩:wAC))
 else
 (rem (w64 (wGc ((wGc (x32 * 256)) + (wGc x13)))) p1).bind fun x50 =>
 some (x50,(⟨p0.bytes,w64 (p0.next + 1),x32⟩:wAC))
def wAY (p0:wAC) (p1:Int) (p2:Int):Option (Int × wAC) :=
 (wAQ p0 (w64 ((w64 (p2 - p1)) + 1))).bind fun (x2,x3) =>
 some (w64 (p1 + x2),x3)
def wBp (p0:wAC) (p1:Int):Option (wAL × wAC) :=
 (wAY p0 1 2).bind fun (x6,x7) =>
 (wAY x7 1 3).bind fun (x21,x22) =>
 (wAQ x22 100).bind fun (x35,x36) =>
 (wAQ x36 100).bind fun (x49,x50) =>
 (wAQ x50 13).bind fun (x63,x64) =>
 (wAY x64 1 p1).bind fun (x84,x85) =>
 (wBf 0 x84 (fun k136 (l127,x130,x131,l132) =>
 (wAQ (⟨l127,x130,x131⟩:wAC) 2).bind fun (x198,x199) =>
 (app 8 l132 [x198]).bind fun x217 =>
 some (x199.bytes,x199.next,x199.state,x217)) (x85.bytes,x85.next,x85.state,[])).bind fun (y141,y142,y143,y144) =>
 some ((⟨y144,x6,x21,x35,w64 (200 + x49),w64 (100 * x63)⟩:wAL),(⟨y141,y142,y143⟩:wAC))
def wAe (p0:wAC) (p1:Int):Option (Bool × wAC) :=
 (wAQ p0 p1).bind fun (x2,x3) =>
 some (decide (x2=0),x3)
def wBT (p0:wAC):Option ((List Bool) × wAC) :=
 iter (fun (l31,x34,x35,l36,x40) =>
 if x40 < 5 then
 if (↑l36.length:Int) < 5 then
 (wAe (⟨l31,x34,x35⟩:wAC) 4).bind fun (x61,x62) =>
 (app 1 l36 [!x61]).bind fun x80 =>
 if x61=true then
 some (.inl (x62.bytes,x62.next,x62.state,x80,x40))
 else
 some (.inl (x62.bytes,x62.next,x62.state,x80,w64 (x40 + 1)))
 else
 if (↑l36.length:Int) < 8 then
 (wAe (⟨l31,x34,x35⟩:wAC) 6).bind fun (x112,x113) =>
 if x112=true then
 esc (some (l36,x113))
 else
 (wAe x113 4).bind fun (x132,x133) =>
 (app 1 l36 [!x132]).bind fun x151 =>
 if x132=true then
 some (.inl (x133.bytes,x133.next,x133.state,x151,x40))
 else
 some (.inl (x133.bytes,x133.next,x133.state,x151,w64 (x40 + 1)))
 else
 esc (some (l36,(⟨l31,x34,x35⟩:wAC)))
 else
 esc (some (l36,(⟨l31,x34,x35⟩:wAC)))) big (p0.bytes,p0.next,p0.state,[],(0:Int))
def wCE (p0:wAC) (p1:Int) (p2:Int):Option (wAZ × wAC) :=
 (wBp p0 p2).bind fun (x6,x7) =>
 (wAQ x7 50).bind fun (x24,x25) =>
 (wAY x25 1 p1).bind fun (x46,x47) =>
 (wBf 0 x46 (fun k102 (l92,x95,x96,l97) =>
 (wAY (⟨l92,x95,x96⟩:wAC) 1 9).bind fun (x131,x132) =>
 (wAY x132 1 5).bind fun (x152,x153) =>
 (wBf 0 x152 (fun k204 (l195,x198,x199,l200) =>
 (wAQ (⟨l195,x198,x199⟩:wAC) 2).bind fun (x269,x270) =>
 (app 8 l200 [x269]).bind fun x288 =>
 some (x270.bytes,x270.next,x270.state,x288)) (x153.bytes,x153.next,x153.state,[])).bind fun (y209,y210,y211,y212) =>
 (wAY (⟨y209,y210,y211⟩:wAC) 300 900).bind fun (x355,x356) =>
 (wAe x356 4).bind fun (x369,x370) =>
 if x369=true then
 (wAQ x370 (w64 ((w64 ((↑x6.Classes.length:Int) * x6.Laps)) + 1))).bind fun (x385,x386) =>
 (iter (fun (l443,x446,x447,l448,x453) =>
 if 0 < x453 then
 (wAQ (⟨l443,x446,x447⟩:wAC) (↑y212.length:Int)).bind fun (x478,x479) =>
 iter (fun (l566,l570,l575,x578,x579,x580,x581) =>
 if x581 < x6.Laps then
 if 0 < x580 then
 (wAQ (⟨l575,x578,x579⟩:wAC) 200).bind fun (x647,x648) =>
 (app 8 l566 [w64 (x355 + x647)]).bind fun x667 =>
 if 0 < x581 then
 (wBT x648).bind fun (x729,x730) =>
 (app 24 l570 [x729]).bind fun x758 =>
 some (.inl (x667,x758,x730.bytes,x730.next,x730.state,w64 (x580 - 1),w64 (x581 + 1)))
 else
 some (.inl (x667,l570,x648.bytes,x648.next,x648.state,w64 (x580 - 1),w64 (x581 + 1)))
 else
 esc ((app 56 l448 [(⟨x478,l566,l570⟩:wAM)]).bind fun x827 =>
 some (.inl (l575,x578,x579,x827,x580)))
 else
 esc ((app 56 l448 [(⟨x478,l566,l570⟩:wAM)]).bind fun x878 =>
 some (.inl (l575,x578,x579,x878,x580)))) big ([],[],x479.bytes,x479.next,x479.state,x453,(0:Int))
 else
 esc (some (l443,x446,x447,l448))) big (x386.bytes,x386.next,x386.state,[],x385)).bind fun (l399,x402,x403,l404) =>
 (app 56 l97 [(⟨w64 ((w64 (9 * (↑k102:Int))) + x131),y212,l404⟩:wAN)]).bind fun x951 =>
 some (l399,x402,x403,x951)
 else
 (iter (fun (l1029,x1032,x1033,l1034,x1039) =>
 if 0 < x1039 then
 (wAQ (⟨l1029,x1032,x1033⟩:wAC) (↑y212.length:Int)).bind fun (x1064,x1065) =>
 iter (fun (l1152,l1156,l1161,x1164,x1165,x1166,x1167) =>
 if x1167 < x6.Laps then
 if 0 < x1166 then
 (wAQ (⟨l1161,x1164,x1165⟩:wAC) 200).bind fun (x1233,x1234) =>
 (app 8 l1152 [w64 (x355 + x1233)]).bind fun x1253 =>
 if 0 < x1167 then
 (wBT x1234).bind fun (x1315,x1316) =>
 (app 24 l1156 [x1315]).bind fun x1344 =>
 some (.inl (x1253,x1344,x1316.bytes,x1316.next,x1316.state,w64 (x1166 - 1),w64 (x1167 + 1)))
 else
 some (.inl (x1253,l1156,x1234.bytes,x1234.next,x1234.state,w64 (x1166 - 1),w64 (x1167 + 1)))
 else
 esc ((app 56 l1034 [(⟨x1064,l1152,l1156⟩:wAM)]).bind fun x1413 =>
 some (.inl (l1161,x1164,x1165,x1413,x1166)))
 else
 esc ((app 56 l1034 [(⟨x1064,l1152,l1156⟩:wAM)]).bind fun x1464 =>
 some (.inl (l1161,x1164,x1165,x1464,x1166)))) big ([],[],x1065.bytes,x1065.next,x1065.state,x1039,(0:Int))
 else
 esc (some (l1029,x1032,x1033,l1034))) big (x370.bytes,x370.next,x370.state,[],w64 ((↑x6.Classes.length:Int) * x6.Laps))).bind fun (l985,x988,x989,l990) =>
 (app 56 l97 [(⟨w64 ((w64 (9 * (↑k102:Int))) + x131),y212,l990⟩:wAN)]).bind fun x1537 =>
 some (l985,x988,x989,x1537)) (x47.bytes,x47.next,x47.state,[])).bind fun (y107,y108,y109,y110) =>
 some ((⟨x6,x24,y110⟩:wAZ),(⟨y107,y108,y109⟩:wAC))
def wBO (p0:Int) (p1:Int) (p2:Int):Option (Bool) :=
 if p1 <= p0 then
 some (decide (p0 <= p2))
 else
 some false
def wCR (p0:Int) (p1:(Int->Option Bool)):Option (Bool) :=
 (p1 p0).bind fun x1 =>
 some (!x1)
def wBz (p0:List Int) (p1:(Int->Option Bool)):Option (Int) :=
 jn (wFX 0 (↑p0.length:Int) (fun k2 _ =>
 (idx p0 (↑k2:Int)).bind fun x22 =>
 (p1 x22).bind fun x30 =>
 if x30=true then
 esc (some (↑k2:Int))
 else
 some (.inl ())) ()) fun _ =>
 some (-1)
def wBY (p0:List Int) (p1:(Int->Option Bool)):Option (Bool) :=
 (wBz p0 p1).bind fun x1 =>
 some (decide (0 <= x1))
def wBN (p0:List Int) (p1:(Int->Option Bool)):Option (Bool) :=
 (wBY p0 (fun x=>wCR x p1)).bind fun x13 =>
 some (!x13)
def wBP (p0:Int):Option (Bool) :=
 (wBO p0 0 3).bind fun x1 =>
 some x1
def wCN (p0:List Int):Option (Bool) :=
 (wBN p0 wBP).bind fun x2 =>
 some x2
def wBs (p0:wAL):Option (Int) :=
 some p0.Each
def wBt (p0:wAL):Option (Int) :=
 some p0.Laps
def wBu (p0:wAL):Option (Int) :=
 some p0.Spare
def wBv (p0:wAL):Option (Int) :=
 some p0.Loop
def wBw (p0:wAL):Option (Int) :=
 some p0.Unused
def wEx :Option ((List wAT)) :=
 some [(⟨wBs,1,4⟩:wAT),(⟨wBt,1,5⟩:wAT),(⟨wBu,0,600⟩:wAT),(⟨wBv,0,600⟩:wAT),(⟨wBw,0,6000⟩:wAT)]
def wBq (p0:wAT) (p1:wAL):Option (Bool) :=
 (p0.of p1).bind fun x7 =>
 (wBO x7 p0.lo p0.hi).bind fun x17 =>
 some x17
def wAz (p0:wAT) (p1:(wAT->Option Bool)):Option (Bool) :=
 (p1 p0).bind fun x5 =>
 some (!x5)
def wAt (p0:List wAT) (p1:(wAT->Option Bool)):Option (Int) :=
 jn (wFX 0 (↑p0.length:Int) (fun k2 _ =>
 (idx p0 (↑k2:Int)).bind fun x22 =>
 (p1 x22).bind fun x34 =>
 if x34=true then
 esc (some (↑k2:Int))
 else
 some (.inl ())) ()) fun _ =>
 some (-1)
def wAo (p0:List wAT) (p1:(wAT->Option Bool)):Option (Bool) :=
 (wAt p0 p1).bind fun x1 =>
 some (decide (0 <= x1))
def wBg (p0:List wAT) (p1:(wAT->Option Bool)):Option (Bool) :=
 (wAo p0 (fun x=>wAz x p1)).bind fun x13 =>
 some (!x13)
def wCS (p0:wAL):Option (Int) :=
 (wBO (↑p0.Classes.length:Int) 1 4).bind fun x10 =>
 if x10=true then
 (wCN p0.Classes).bind fun x25 =>
 if x25=true then
 (wEx).bind fun x37 =>
 (wBg x37 (fun x=>wBq x p0)).bind fun x64 =>
 if x64=true then
 some 0
 else
 some 3
 else
 some 3
 else
 some 2
def wBc (p0:wAL) (p1:wAN):Option (Bool) :=
 (wBO (↑p1.Classes.length:Int) 1 8).bind fun x9 =>
 if x9=true then
 if (↑p0.Classes.length:Int) < (↑p1.Legs.length:Int) then
 some false
 else
 jn (wFX 0 (↑p1.Legs.length:Int) (fun k25 _ =>
 (idx p1.Legs (↑k25:Int)).bind fun x46 =>
 if p0.Laps < (↑x46.Loops.length:Int) then
 esc (some false)
 else
 if (↑k25:Int) < (w64 ((↑p1.Legs.length:Int) - 1)) then
 if (↑x46.Loops.length:Int) < p0.Laps then
 esc (some false)
 else
 if (↑x46.Bouts.length:Int)=(max 0 (w64 ((↑x46.Loops.length:Int) - 1))) then
 some (.inl ())
 else
 esc (some false)
 else
 if (↑x46.Bouts.length:Int)=(max 0 (w64 ((↑x46.Loops.length:Int) - 1))) then
 some (.inl ())
 else
 esc (some false)) ()) fun _ =>
 some true
 else
 some false
def wBG (p0:wAN) (p1:(wAN->Option Bool)):Option (Bool) :=
 (p1 p0).bind fun x5 =>
 some (!x5)
def wAv (p0:List wAN) (p1:(wAN->Option Bool)):Option (Int) :=
 jn (wFX 0 (↑p0.length:Int) (fun k2 _ =>
 (idx p0 (↑k2:Int)).bind fun x22 =>
 (p1 x22).bind fun x38 =>
 if x38=true then
 esc (some (↑k2:Int))
 else
 some (.inl ())) ()) fun _ =>
 some (-1)
def wAr (p0:List wAN) (p1:(wAN->Option Bool)):Option (Bool) :=
 (wAv p0 p1).bind fun x1 =>
 some (decide (0 <= x1))
def wBQ (p0:List wAN) (p1:(wAN->Option Bool)):Option (Bool) :=
 (wAr p0 (fun x=>wBG x p1)).bind fun x13 =>
 some (!x13)
def wDG (p0:wAN):Option (Bool) :=
 (wBO p0.Bib 1 999).bind fun x5 =>
 if x5=true then
 (wCN p0.Classes).bind fun x18 =>
 some x18
 else
 some false
def wBd {S E:Type} (f:S->(wAN × wAM)->Option (S ⊕ E)) (s0:S) (p1:wAZ):Option (S ⊕ E) :=
 jn (wFX 0 (↑p1.Teams.length:Int) (fun k12 s10 =>
  (idx p1.Teams (↑k12:Int)).bind fun x33 =>
  jn (wFX 0 (↑x33.Legs.length:Int) (fun k66 s64 =>
   (idx x33.Legs (↑k66:Int)).bind fun x91 =>
   (f s64 (x33,x91)).bind fun yr115 =>
   match yr115 with
   | .inl s125 =>
    some (.inl s125)
   | .inr s125 =>
    esc (esc (some (.inr s125)))) s10) fun y142 =>
  some (.inl y142)) s0) fun y163 =>
 some (.inl y163)
def wCd (p0:wAZ):Option (Unit) :=
 some ()
def wCi (p0:Int):Option (Bool) :=
 (wBO p0 1 9000).bind fun x1 =>
 some x1
def wCv (p0:List Bool):Option (wAi × Int) :=
 (wBO (↑p0.length:Int) 5 8).bind fun x5 =>
 if x5=true then
 jn (wFX 0 (↑p0.length:Int) (fun k23 x22 =>
 (idx p0 (↑k23:Int)).bind fun x45 =>
 if x22=0 then
 esc (some ((⟨0,0,0⟩:wAi),8))
 else
 if x45=true then
 some (.inl (w64 (x22 - 1)))
 else
 some (.inl x22)) 5) fun y72 =>
 if 0 < y72 then
 some ((⟨w64 ((↑p0.length:Int) - 5),y72,w64 (8 - (↑p0.length:Int))⟩:wAi),0)
 else
 some ((⟨w64 ((↑p0.length:Int) - 5),y72,0⟩:wAi),0)
 else
 some ((⟨0,0,0⟩:wAi),2)
def wDw (p0:wAZ):Option (Int) :=
 (wCS p0.Rules).bind fun x9 =>
 if x9=0 then
  (wBO (↑p0.Teams.length:Int) 1 12).bind fun x21 =>
  if x21=true then
   (wBQ p0.Teams (fun x=>wBc p0.Rules x)).bind fun x38 =>
   if x38=true then
    (wBO p0.Start 0 36000).bind fun x50 =>
    if x50=true then
     (wBQ p0.Teams wDG).bind fun x65 =>
     if x65=true then
      (wCd p0).bind fun _ =>
      (wBd (S:=Unit) (E:=Int) (fun _ x146 =>
       (wBN x146.2.Loops wCi).bind fun x191 =>
       if x191=true then
        some (.inl ())
       else
        some (.inr 3)) () p0).bind fun rr138 =>
      match rr138 with
      | .inl _ =>
       (wCd p0).bind fun _ =>
       (wBd (S:=Unit) (E:=Int) (fun _ x290 =>
        (wBO x290.2.Skier 0 (w64 ((↑x290.1.Classes.length:Int) - 1))).bind fun x341 =>
        if x341=true then
         some (.inl ())
        else
         some (.inr 1)) () p0).bind fun rr282 =>
       match rr282 with
       | .inl _ =>
        (wCd p0).bind fun _ =>
        (wBd (S:=Unit) (E:=Int) (fun _ x492 =>
         jn (wFX 0 (↑x492.2.Bouts.length:Int) (fun k537 _ =>
          (idx x492.2.Bouts (↑k537:Int)).bind fun x558 =>
          (wCv x558).bind fun (x571,x572) =>
          if x572=0 then
           some (.inl ())
          else
           esc (some (.inr x572))) ()) fun _ =>
         some (.inl ())) () p0).bind fun rr484 =>
        match rr484 with
        | .inl _ =>
         (wBf 0 (↑p0.Teams.length:Int) (fun k640 l637 =>
          (idx p0.Teams (↑k640:Int)).bind fun x664 =>
          some (wHq l637 x664.Bib true)) ([]:List (Int × Bool))).bind fun y645 =>
         if (↑(y645.length):Int) < (↑p0.Teams.length:Int) then
          some 5
         else
          some 0
        | .inr y618 =>
         some y618
       | .inr y364 =>
        some y364
      | .inr y214 =>
       some y214
     else
      some 3
    else
     some 3
   else
    some 2
  else
   some 2
 else
  some x9
def wDP (p0:wAZ):Option ((Option wDo) × Int) :=
 (wDw p0).bind fun x5 =>
 if x5=0 then
 (wBf 0 (↑p0.Teams.length:Int) (fun k42 l37 =>
 (idx p0.Teams (↑k42:Int)).bind fun x66 =>
 (wBf 0 (↑x66.Legs.length:Int) (fun k111 (x106,l107) =>
 (idx x66.Legs (↑k111:Int)).bind fun x140 =>
 (wBf 0 (↑x140.Loops.length:Int) (fun k181 (x177,l178) =>
 (idx x140.Loops (↑k181:Int)).bind fun x211 =>
 if 0 < (↑k181:Int) then
 (idx x140.Bouts (w64 ((↑k181:Int) - 1))).bind fun x221 =>
 (wCv x221).bind fun (x234,x235) =>
 (app 8 l178 [w64 ((w64 (x177 + x211)) + (w64 ((w64 (x234.Spares * p0.Rules.Spare)) + (w64 (x234.Loops * p0.Rules.Loop)))))]).bind fun x274 =>
 some (w64 ((w64 (x177 + x211)) + (w64 ((w64 (x234.Spares * p0.Rules.Spare)) + (w64 (x234.Loops * p0.Rules.Loop))))),x274)
 else
 (app 8 l178 [w64 (x177 + x211)]).bind fun x292 =>
 some (w64 (x177 + x211),x292)) (x106,l107)).bind fun (y186,y187) =>
 some (y186,y187)) (p0.Start,[])).bind fun (y116,y117) =>
 (app 24 l37 [y117]).bind fun x366 =>
 some x366) []).bind fun y47 =>
 some ((some (⟨p0,y47⟩:wDo)),0)
 else
 some (none,x5)
def wBH (p0:List Int):Option ((List Int)) :=
 (app 8 ([]:List Int) p0).bind fun x11 =>
 some x11
def wCe (p0:wDo):Option (wAk) :=
 (wBf 0 (↑p0.Race.Teams.length:Int) (fun k51 (l42,l46) =>
 (idx p0.Race.Teams (↑k51:Int)).bind fun x80 =>
 (app 8 l42 [x80.Bib]).bind fun x108 =>
 (idx p0.after (↑k51:Int)).bind fun x121 =>
 (wBH x121).bind fun x134 =>
 (app 24 l46 [x134]).bind fun x158 =>
 some (x108,x158)) ([],[])).bind fun (y56,y57) =>
 some (⟨w64 ((↑p0.Race.Rules.Classes.length:Int) * p0.Race.Rules.Laps),y56,y57⟩:wAk)
def wES (p0:wAZ):Option (wAk × Int) :=
 (wDP p0).bind fun (x9,x10) =>
 match x9 with
 | none =>
  if x10=0 then
   none
  else
   some ((⟨0,[],[]⟩:wAk),x10)
 | some x28 =>
  if x10=0 then
   (wCe x28).bind fun x55 =>
   some (x55,0)
  else
   some ((⟨0,[],[]⟩:wAk),x10)
def wCw (p0:wDo) (p1:Int):Option ((List Int)) :=
 (idx p0.after p1).bind fun x2 =>
 (wBf 0 (↑x2.length:Int) (fun k31 l27 =>
 (idx x2 (↑k31:Int)).bind fun x55 =>
 (rem (↑(k31 + 1):Int) p0.Race.Rules.Laps).bind fun x63 =>
 if x63=0 then
 (app 8 l27 [x55]).bind fun x73 =>
 some x73
 else
 some l27) []).bind fun y36 =>
 some y36
def wDx (p0:wAZ):Option ((List (List Int)) × Int) :=
 (wDP p0).bind fun (x5,x6) =>
 match x5 with
 | none =>
  if x6=0 then
   (wBf 0 (↑p0.Teams.length:Int) (fun k29 _ =>
    none) ()).bind fun _ =>
   some ([],0)
  else
   some ([],x6)
 | some x24 =>
  if x6=0 then
   (wBf 0 (↑p0.Teams.length:Int) (fun k100 l95 =>
    (wCw x24 (↑k100:Int)).bind fun x129 =>
    (app 24 l95 [x129]).bind fun x153 =>
    some x153) []).bind fun y105 =>
   some (y105,0)
  else
   some ([],x6)
def wDB (p0:wAZ) (p1:Int):Option ((List Int) × Int) :=
 (wDx p0).bind fun (x5,x6) =>
 if x6=0 then
 (wBO p1 0 (w64 ((↑p0.Rules.Classes.length:Int) - 1))).bind fun x23 =>
 if x23=true then
 (mkz 8 (↑x5.length:Int) (0:Int)).bind fun x35 =>
 (wBf 0 (↑x5.length:Int) (fun k56 l55 =>
 (idx x5 (↑k56:Int)).bind fun x80 =>
 if (↑x80.length:Int) <= p1 then
 some l55
 else
 (chk (↑k56:Int) l55.length).bind fun _ =>
 (wBf 0 (↑x5.length:Int) (fun k109 l108 =>
 (idx x5 (↑k109:Int)).bind fun x138 =>
 if p1 < (↑x138.length:Int) then
 (idx x138 p1).bind fun x155 =>
 (idx x80 p1).bind fun x162 =>
 if x155 < x162 then
 (chk (↑k56:Int) l108.length).bind fun _ =>
 some (nG l108 k56 (w64 ((gd l108 k56) + 1)))
 else
 some l108
 else
 some l108) (nG l55 k56 1)).bind fun y114 =>
 some y114) x35).bind fun y61 =>
 some (y61,0)
 else
 some ([],1)
 else
 some ([],x6)
def wCW :Option ((List (List Bool))) :=
 some [[true,false,true,true,true,true],[false,false,false,true,true,true,true,true],[true,true,true,true,false,false,false,false],[false,true,true,true,true]]
def wCT :Option (wAZ) :=
 (wCW).bind fun x5 =>
 ((cut x5 0 1).bind fun x50 =>
 (cut x5 2 3).bind fun x67 =>
 (cut x5 3 (↑(x5.length):Int)).bind fun x131 =>
 some ([0,1],[(⟨7,[0,1],[(⟨0,[1000,1100],x50⟩:wAM),(⟨1,[900,950],x67⟩:wAM)]⟩:wAN),(⟨3,[1,0],[(⟨1,[1000,1150],[[true,true,true,true,true]]⟩:wAM),(⟨0,[900,1500],x131⟩:wAM)]⟩:wAN)])).bind fun (l20,l23) =>
 some (⟨(⟨l20,1,2,100,250,1200⟩:wAL),0,l23⟩:wAZ)
def wGG (p0:Int) (p1:Int) (p2:Int):Option (Bool) :=
 if p1 <= p0 then
 some (decide (p0 <= p2))
 else
 some false
def wCj (p0:List Int) (p1:wAk):Option (Bool) :=
 some (decide ((↑p0.length:Int) <= p1.Laps))
def wEX (p0:List (List Int)) (p1:((List Int)->Option Bool)):Option (Bool) :=
 jn (wFX 0 (↑p0.length:Int) (fun k2 _ =>
 (idx p0 (↑k2:Int)).bind fun x22 =>
 (p1 x22).bind fun x35 =>
 if x35=true then
 some (.inl ())
 else
 esc (some false)) ()) fun _ =>
 some true
def wDj (p0:List Int) (p1:(Int->Option Bool)):Option (Bool) :=
 jn (wFX 0 (↑p0.length:Int) (fun k2 _ =>
 (idx p0 (↑k2:Int)).bind fun x22 =>
 (p1 x22).bind fun x30 =>
 if x30=true then
 some (.inl ())
 else
 esc (some false)) ()) fun _ =>
 some true
def wCk (p0:Int):Option (Bool) :=
 (wGG p0 1 999).bind fun x1 =>
 some x1
def wCO (p0:Int):Option (Bool) :=
 (wGG p0 0 360000).bind fun x1 =>
 some x1
def wCl (p0:List Int):Option (Bool) :=
 (wDj p0 wCO).bind fun x2 =>
 some x2
def wGQ (p0:List Int):Option (Bool) :=
 jn (wFX 0 (↑p0.length:Int) (fun k20 l17 =>
 (idx p0 (↑k20:Int)).bind fun x41 =>
 if (wBE l17 x41 false)=true then
 esc (some true)
 else
 some (.inl (wHq l17 x41 true))) ([]:List (Int × Bool))) fun y68 =>
 some false
def wDy (p0:wAk):Option (Int) :=
 (wGG p0.Laps 1 20).bind fun x10 =>
 if x10=true then
 if 60 < (↑p0.Bibs.length:Int) then
 some 2
 else
 if (↑p0.Times.length:Int)=(↑p0.Bibs.length:Int) then
 (wEX p0.Times (fun x=>wCj x p0)).bind fun x33 =>
 if x33=true then
 (wDj p0.Bibs wCk).bind fun x48 =>
 if x48=true then
 (wEX p0.Times wCl).bind fun x64 =>
 if x64=true then
 (wGQ p0.Bibs).bind fun x79 =>
 if x79=true then
 some 5
 else
 jn (wFX 0 (↑p0.Times.length:Int) (fun k97 _ =>
 (idx p0.Times (↑k97:Int)).bind fun x116 =>
 jn (wFX 1 (↑x116.length:Int) (fun k132 _ =>
 (idx x116 (1 + ↑k132:Int)).bind fun x155 =>
 (idx x116 (w64 ((1 + ↑k132:Int) - 1))).bind fun x163 =>
 if x155 <= x163 then
 esc (esc (some 4))
 else
 some (.inl ())) ()) fun _ =>
 some (.inl ())) ()) fun _ =>
 some 0
 else
 some 3
 else
 some 3
 else
 some 2
 else
 some 2
 else
 some 2
def wDp (p0:List Int) (p1:Int):Option ((List Int)) :=
 if p1 < 0 then
 none
 else
 if 0 < (w64 (p1 - 0)) then
 (appZ 8 (w64 (p1 - 0)) (0:Int)).bind fun x6 =>
 some ([]:List Int)
 else
 some []
def wDQ (p0:List (List Int)):Option ((List Int)) :=
 (wBf 0 (↑p0.length:Int) (fun k7 x6 =>
 (idx p0 (↑k7:Int)).bind fun x29 =>
 if (w64 (x6 + (↑x29.length:Int))) < 0 then
 none
 else
 some (w64 (x6 + (↑x29.length:Int)))) 0).bind fun y12 =>
 (wDp [] y12).bind fun x59 =>
 (wBf 0 (↑p0.length:Int) (fun k86 l83 =>
 (idx p0 (↑k86:Int)).bind fun x107 =>
 (app 8 l83 x107).bind fun x122 =>
 some x122) x59).bind fun y91 =>
 some y91
def wFH (p0:List Int):Option (List Int):=wOx p0
def wET (p0:List Int):Option (List Int):=wKT p0
def wDC {S E:Type} (f:S->Int->Option (S ⊕ E)) (s0:S) (p1:List Int):Option (S ⊕ E) :=
 jn (wFX 0 (↑p1.length:Int) (fun k12 s10 =>
  (idx p1 (↑k12:Int)).bind fun x33 =>
  (f s10 x33).bind fun yr41 =>
  match yr41 with
  | .inl s51 =>
   some (.inl s51)
  | .inr s51 =>
   esc (some (.inr s51))) s0) fun y65 =>
 some (.inl y65)
def wDR (p0:List Int):Option (Unit) :=
 some ()
def wEY (p0:wAk):Option ((List Int)) :=
 (wDQ p0.Times).bind fun x5 =>
 (wFH x5).bind fun x18 =>
 (wET x18).bind fun x29 =>
 (wDR x29).bind fun _ =>
 some x29
def wDS (p0:wAs) (p1:Int) (p2:Int) (p3:Int):Option (Int) :=
 (wBf 0 (↑p0.done.length:Int) (fun k7 x6 =>
 ((idx p0.done (↑k7:Int)).bind fun x35 =>
 (idx p0.out (↑k7:Int)).bind fun x46 =>
 if x46=true then
 some x6
 else
 if (w64 (p2 + 2)) <= x35 then
 (idx p0.Race.Times (↑k7:Int)).bind fun x60 =>
 (idx x60 (w64 (x35 - 1))).bind fun x73 =>
 if x73=p3 then
 if x6 < 0 then
 some (↑k7:Int)
 else
 (idx p0.Race.Bibs (↑k7:Int)).bind fun x96 =>
 (idx p0.Race.Bibs x6).bind fun x104 =>
 if x96 < x104 then
 some (↑k7:Int)
 else
 some x6
 else
 some x6
 else
 some x6).bind fun x31 =>
 some x31) (-1)).bind fun y12 =>
 some y12
def wDq (p0:wAs) (p1:Int):Option ((List Int) × wAs) :=
 (wBf 0 (↑p0.Race.Times.length:Int) (fun k10 l9 =>
 (idx p0.Race.Times (↑k10:Int)).bind fun x33 =>
 (chk (↑k10:Int) l9.length).bind fun _ =>
 (chk (↑k10:Int) p0.out.length).bind fun _ =>
 if (gd p0.out k10)=true then
 some l9
 else
 if (gd l9 k10) < (↑x33.length:Int) then
 (idx x33 (gd l9 k10)).bind fun x62 =>
 if x62=p1 then
 some (nG l9 k10 (w64 ((gd l9 k10) + 1)))
 else
 some l9
 else
 some l9) p0.done).bind fun y15 =>
 (wBf 0 (↑y15.length:Int) (fun k121 l117 =>
 (chk (↑k121:Int) y15.length).bind fun _ =>
 (chk (↑k121:Int) p0.out.length).bind fun _ =>
 if (gd p0.out k121)=true then
 some l117
 else
 (wDS (⟨p0.Race,y15,p0.out⟩:wAs) (↑k121:Int) (gd y15 k121) p1).bind fun x193 =>
 if 0 <= x193 then
 (app 8 l117 [(↑k121:Int)]).bind fun x222 =>
 some x222
 else
 some l117) []).bind fun y126 =>
 some (y126,(⟨p0.Race,y15,p0.out⟩:wAs))
noncomputable def wCX (p0:List wAl) (p1:((wAl × wAl)->Option Int)):Option (List wAl):=wNz p1 p0
def wEZ (p0:Int):Option (Bool) :=
 some (decide (¬ (p0=p0)))
def wBh (p0:Int) (p1:Int):Option (Int) :=
 (wEZ p0).bind fun x1 =>
 (wEZ p1).bind fun x11 =>
 if x1=true then
 if x11=true then
 some 0
 else
 some (-1)
 else
 if x11=true then
 some 1
 else
 if p0 < p1 then
 some (-1)
 else
 if p1 < p0 then
 some 1
 else
 some 0
def wFI (p0:List Int):Option (Int) :=
 jn (wFX 0 (↑p0.length:Int) (fun k2 _ =>
 (idx p0 (↑k2:Int)).bind fun x22 =>
 if x22=0 then
 some (.inl ())
 else
 esc (some x22)) ()) fun _ =>
 some 0
def wEa (p0:wAl) (p1:wAl):Option (Int) :=
 (wBh p0.Time p1.Time).bind fun x11 =>
 (wBh p0.Bib p1.Bib).bind fun x21 =>
 (wFI [x11,x21]).bind fun x41 =>
 some x41
def wGR (p0:wAk):Option (wAs × (List wAl)) :=
 ((mkz 8 (↑p0.Bibs.length:Int) (0:Int)).bind fun x18 =>
 (mkz 1 (↑p0.Bibs.length:Int) false).bind fun x26 =>
 some (x18,x26)).bind fun (l9,l12) =>
 (wEY p0).bind fun x288 =>
 (wDC (S:=(List wAl) × Int × (List Int) × (List (List Int)) × (List Int) × (List Bool)) (E:=Empty) (fun (l849,x853,l854,l857,l860,l863) x892 =>
  (wDq (⟨(⟨x853,l854,l857⟩:wAk),l860,l863⟩:wAs) x892).bind fun (x918,x919) =>
  (wBf 0 (↑x918.length:Int) (fun k959 l956 =>
   (chk (↑k959:Int) x918.length).bind fun _ =>
   (idx x919.Race.Bibs (gd x918 k959)).bind fun x990 =>
   (chk (gd x918 k959) x919.done.length).bind fun _ =>
   (wDS x919 (gd x918 k959) (gd x919.done (gd x918 k959).toNat) x892).bind fun x1032 =>
   (idx x919.Race.Bibs x1032).bind fun x1054 =>
   (app 32 l956 [(⟨x990,(gd x919.done (gd x918 k959).toNat),x892,x1054⟩:wAl)]).bind fun x1067 =>
   some x1067) l849).bind fun y964 =>
  (wBf 0 (↑x918.length:Int) (fun k1106 l1105 =>
   (chk (↑k1106:Int) x918.length).bind fun _ =>
   (chk (gd x918 k1106) l1105.length).bind fun _ =>
   some (nG l1105 (gd x918 k1106).toNat true)) x919.out).bind fun y1111 =>
  some (.inl (y964,x919.Race.Laps,x919.Race.Bibs,x919.Race.Times,x919.done,y1111))) ([],p0.Laps,p0.Bibs,p0.Times,l9,l12) x288).bind fun rr886 =>
 match rr886 with
 | .inl (y1184,y1185,y1186,y1187,y1188,y1189) =>
  (wCX y1184 (fun x=>wEa x.1 x.2)).bind fun x1206 =>
  some ((⟨(⟨y1185,y1186,y1187⟩:wAk),y1188,y1189⟩:wAs),x1206)
 | .inr e1200 =>
  e1200.elim
def wGA (p0:wAk):Option ((List wAl) × Int) :=
 (wDy p0).bind fun x5 =>
 if x5=0 then
 (wGR p0).bind fun (x19,x20) =>
 some (x20,0)
 else
 some ([],x5)
def wFe (p0:wAk):Option ((List Int) × Int) :=
 (wDy p0).bind fun x5 =>
 if x5=0 then
 (wGR p0).bind fun (x19,x20) =>
 some (x19.done,0)
 else
 some ([],x5)
def wEN (p0:wAN):Option (Int) :=
 (wBf 0 (↑p0.Legs.length:Int) (fun k18 x17 =>
 (idx p0.Legs (↑k18:Int)).bind fun x40 =>
 (wBf 0 (↑x40.Bouts.length:Int) (fun k69 x68 =>
 (idx x40.Bouts (↑k69:Int)).bind fun x94 =>
 (wCv x94).bind fun (x107,x108) =>
 if x107=(⟨0,0,0⟩:wAi) then
 some x68
 else
 some (w64 (x68 + x107.Unused))) x17).bind fun y74 =>
 some y74) 0).bind fun y23 =>
 some y23
noncomputable def wBB (p0:List wAE) (p1:((wAE × wAE)->Option Int)):Option (List wAE):=wNz p1 p0
def wDH (p0:wAE) (p1:wAE):Option (Int) :=
 (wBh p0.Time p1.Time).bind fun x11 =>
 (wBh p0.Bib p1.Bib).bind fun x21 =>
 (wFI [x11,x21]).bind fun x41 =>
 some x41
def wDI (p0:wAE) (p1:wAE) (p2:List (Int × Int)):Option (Int) :=
 (wBh (wBE p2 p1.Bib 0) (wBE p2 p0.Bib 0)).bind fun x11 =>
 (wBh p0.Bib p1.Bib).bind fun x21 =>
 (wFI [x11,x21]).bind fun x41 =>
 some x41
def wFf (p0:wAZ):Option ((List wAE) × Int) :=
 (wDP p0).bind fun (x5,x6) =>
 match x5 with
 | none =>
  if x6=0 then
   none
  else
   some ([],x6)
 | some x24 =>
  if x6=0 then
   (wCe x24).bind fun x46 =>
   (wGA x46).bind fun (x83,x84) =>
   (wFe x46).bind fun (x99,x100) =>
   (wBf 0 (↑x83.length:Int) (fun k144 l141 =>
    (chk (↑k144:Int) x83.length).bind fun _ =>
    some (wHq l141 ((gd x83 k144).Bib) true)) ([]:List (Int × Bool))).bind fun y149 =>
   (wBf 0 (↑p0.Teams.length:Int) (fun k258 (l247,l250,l254) =>
    (idx p0.Teams (↑k258:Int)).bind fun x293 =>
    (chk (↑k258:Int) x99.length).bind fun _ =>
    if (wBE y149 x293.Bib false)=true then
     (app 24 l254 [(⟨x293.Bib,0,0⟩:wAE)]).bind fun x346 =>
     some ((wHq l247 x293.Bib (gd x99 k258)),l250,x346)
    else
     (idx x24.after (↑k258:Int)).bind fun x364 =>
     if (↑x364.length:Int) < x46.Laps then
      (app 24 l254 [(⟨x293.Bib,0,0⟩:wAE)]).bind fun x390 =>
      some ((wHq l247 x293.Bib (gd x99 k258)),l250,x390)
     else
      (idx x364 (w64 (x46.Laps - 1))).bind fun x434 =>
      (wEN x293).bind fun x441 =>
      (app 24 l250 [(⟨x293.Bib,0,w64 (x434 + (w64 (x441 * p0.Rules.Unused)))⟩:wAE)]).bind fun x456 =>
      some ((wHq l247 x293.Bib (gd x99 k258)),x456,l254)) (([]:List (Int × Int)),[],[])).bind fun (y263,y264,y265) =>
   (wBB y264 (fun x=>wDH x.1 x.2)).bind fun x508 =>
   (wBB y265 (fun x=>wDI x.1 x.2 y263)).bind fun x532 =>
   (wBf 0 (↑x508.length:Int) (fun k550 l549 =>
    (chk (↑k550:Int) l549.length).bind fun _ =>
    if 0 < (↑k550:Int) then
     (chk (↑k550:Int) (nG l549 k550 (⟨(gd l549 k550).Bib,(↑(k550 + 1):Int),(gd l549 k550).Time⟩:wAE)).length).bind fun _ =>
     (chk (w64 ((↑k550:Int) - 1)) (nG l549 k550 (⟨(gd l549 k550).Bib,(↑(k550 + 1):Int),(gd l549 k550).Time⟩:wAE)).length).bind fun _ =>
     if ((gd (nG l549 k550 (⟨(gd l549 k550).Bib,(↑(k550 + 1):Int),(gd l549 k550).Time⟩:wAE)) k550).Time)=((gd (nG l549 k550 (⟨(gd l549 k550).Bib,(↑(k550 + 1):Int),(gd l549 k550).Time⟩:wAE)) (w64 ((↑k550:Int) - 1)).toNat).Time) then
      some (nG (nG l549 k550 (⟨(gd l549 k550).Bib,(↑(k550 + 1):Int),(gd l549 k550).Time⟩:wAE)) k550 (⟨(gd (nG l549 k550 (⟨(gd l549 k550).Bib,(↑(k550 + 1):Int),(gd l549 k550).Time⟩:wAE)) k550).Bib,(gd (nG l549 k550 (⟨(gd l549 k550).Bib,(↑(k550 + 1):Int),(gd l549 k550).Time⟩:wAE)) (w64 ((↑k550:Int) - 1)).toNat).Place,(gd (nG l549 k550 (⟨(gd l549 k550).Bib,(↑(k550 + 1):Int),(gd l549 k550).Time⟩:wAE)) k550).Time⟩:wAE))
     else
      some (nG l549 k550 (⟨(gd l549 k550).Bib,(↑(k550 + 1):Int),(gd l549 k550).Time⟩:wAE))
    else
     some (nG l549 k550 (⟨(gd l549 k550).Bib,(↑(k550 + 1):Int),(gd l549 k550).Time⟩:wAE))) x508).bind fun y555 =>
   (app 24 y555 x532).bind fun x615 =>
   some (x615,0)
  else
   some ([],x6)
def wGB (p0:wAZ):Option ((List (List Int)) × Int) :=
 (wDw p0).bind fun x5 =>
 if x5=0 then
 (mkz 24 (↑p0.Teams.length:Int) ([]:List Int)).bind fun x17 =>
 (wBf 0 (↑p0.Teams.length:Int) (fun k39 l37 =>
 (idx p0.Teams (↑k39:Int)).bind fun x61 =>
 (wBf 0 (↑x61.Legs.length:Int) (fun k104 (a101,l102) =>
 (idx x61.Legs (↑k104:Int)).bind fun x133 =>
 ((idx x61.Classes x133.Skier).bind fun x162 =>
 (idx p0.Rules.Classes (↑k104:Int)).bind fun x170 =>
 if x162=x170 then
 (chk x133.Skier 8).bind fun _ =>
 some (decide (p0.Rules.Each <= (a101.get x133.Skier.toNat)))
 else
 some true).bind fun b156 =>
 if b156=true then
 (chk (↑k39:Int) l102.length).bind fun _ =>
 (app 8 (gd l102 k39) [(↑k104:Int)]).bind fun x223 =>
 (chk x133.Skier 8).bind fun _ =>
 some ((a101.set x133.Skier.toNat (w64 ((a101.get x133.Skier.toNat) + 1))),(nG l102 k39 x223))
 else
 (chk x133.Skier 8).bind fun _ =>
 some ((a101.set x133.Skier.toNat (w64 ((a101.get x133.Skier.toNat) + 1))),l102)) ((Arr.fill 8 0),l37)).bind fun (y109,y110) =>
 some y110) x17).bind fun y44 =>
 some (y44,0)
 else
 some ([],x5)
def wCp (p0:List Int) (p1:List Int):Option (Bool) :=
 if (↑p0.length:Int)=(↑p1.length:Int) then
 jn (wFX 0 (↑p0.length:Int) (fun k4 _ =>
 (idx p0 (↑k4:Int)).bind fun x26 =>
 (idx p1 (↑k4:Int)).bind fun x34 =>
 if x26=x34 then
 some (.inl ())
 else
 esc (some false)) ()) fun _ =>
 some true
 else
 some false
def wCJ (p0:List (List Int)) (p1:List (List Int)):Option (Bool) :=
 if (↑p0.length:Int)=(↑p1.length:Int) then
 jn (wFX 0 (↑p0.length:Int) (fun k4 _ =>
 (idx p0 (↑k4:Int)).bind fun x26 =>
 (idx p1 (↑k4:Int)).bind fun x39 =>
 (wCp x26 x39).bind fun x52 =>
 if x52=true then
 some (.inl ())
 else
 esc (some false)) ()) fun _ =>
 some true
 else
 some false
def wCF (p0:List wAE) (p1:List wAE):Option (Bool) :=
 if (↑p0.length:Int)=(↑p1.length:Int) then
 jn (wFX 0 (↑p0.length:Int) (fun k4 _ =>
 (idx p0 (↑k4:Int)).bind fun x26 =>
 (idx p1 (↑k4:Int)).bind fun x34 =>
 if x26=x34 then
 some (.inl ())
 else
 esc (some false)) ()) fun _ =>
 some true
 else
 some false
def wCY :Option (wBX) :=
 some (⟨[0,1,0],[[2300,9999],[2600,2400],[2250,9999]]⟩:wBX)
def wCZ (p0:List Int) (p1:wAL):Option (Bool) :=
 some (decide ((↑p0.length:Int)=(↑p1.Classes.length:Int)))
def wCA (p0:List Int) (p1:((List Int)->Option Bool)):Option (Bool) :=
 (p1 p0).bind fun x1 =>
 some (!x1)
def wCP (p0:List (List Int)) (p1:((List Int)->Option Bool)):Option (Int) :=
 jn (wFX 0 (↑p0.length:Int) (fun k2 _ =>
 (idx p0 (↑k2:Int)).bind fun x22 =>
 (p1 x22).bind fun x35 =>
 if x35=true then
 esc (some (↑k2:Int))
 else
 some (.inl ())) ()) fun _ =>
 some (-1)
def wBj (p0:List (List Int)) (p1:((List Int)->Option Bool)):Option (Bool) :=
 (wCP p0 p1).bind fun x1 =>
 some (decide (0 <= x1))
def wDF (p0:List (List Int)) (p1:((List Int)->Option Bool)):Option (Bool) :=
 (wBj p0 (fun x=>wCA x p1)).bind fun x13 =>
 some (!x13)
def wCB (p0:Int):Option (Bool) :=
 (wBO p0 0 100000).bind fun x1 =>
 some x1
def wCa (p0:List Int):Option (Bool) :=
 (wBN p0 wCB).bind fun x2 =>
 some x2
def wCx (p0:wAL) (p1:wBX):Option (Int) :=
 (wCS p0).bind fun x15 =>
 if x15=0 then
 (wBO (↑p1.Classes.length:Int) 1 8).bind fun x27 =>
 if x27=true then
 if (↑p1.Times.length:Int)=(↑p1.Classes.length:Int) then
 (wDF p1.Times (fun x=>wCZ x p0)).bind fun x49 =>
 if x49=true then
 (wCN p1.Classes).bind fun x65 =>
 if x65=true then
 (wDF p1.Times wCa).bind fun x80 =>
 if x80=true then
 some 0
 else
 some 3
 else
 some 3
 else
 some 2
 else
 some 2
 else
 some 2
 else
 some x15
def wCy (p0:wAp) (p1:Int) (p2:Int):Option (Bool) :=
 (idx p0.Squad.Classes p1).bind fun x7 =>
 (idx p0.rules.Classes p2).bind fun x14 =>
 some (decide (x7=x14))
def wFg (p0:List Int):Option (Int) :=
 (wBf 0 (↑p0.length:Int) (fun k7 x6 =>
 (idx p0 (↑k7:Int)).bind fun x28 =>
 some (w64 (x6 + x28))) 0).bind fun y12 =>
 some y12
def wED (p0:wAp) (p1:List Int):Option (Int × Bool) :=
 jn (wFX 0 (↑p1.length:Int) (fun k31 (a26,l27) =>
 (idx p1 (↑k31:Int)).bind fun x56 =>
 (chk x56 8).bind fun _ =>
 (wCy p0 x56 (↑k31:Int)).bind fun x76 =>
 if x76=true then
 if p0.rules.Each < ((a26.set x56.toNat (w64 ((a26.get x56.toNat) + 1))).get x56.toNat) then
 esc (some (0,false))
 else
 (idx p0.Squad.Times x56).bind fun x95 =>
 (idx x95 (↑k31:Int)).bind fun x108 =>
 (app 8 l27 [x108]).bind fun x120 =>
 some (.inl ((a26.set x56.toNat (w64 ((a26.get x56.toNat) + 1))),x120))
 else
 esc (some (0,false))) ((Arr.fill 8 0),[])) fun (y140,y141) =>
 (wFg y141).bind fun x160 =>
 some (x160,true)
def wDT (rec_:(List Int)->wAp->(List Int)->Int->Int->Unit->Option ((List Int) × Int)) (p0:List Int) (p1:wAp) (p2:List Int) (p3:Int) (p4:Int) (p5:Unit):Option ((List Int) × Int) :=
 if (↑p0.length:Int)=(↑p1.rules.Classes.length:Int) then
 (wED p1 p0).bind fun (x6,x7) =>
 if x7=true then
 if p2=[] then
 (wBH p0).bind fun x23 =>
 (wQL x23).bind fun x36 =>
 some (x23,x6)
 else
 if x6 < p3 then
 (wBH p0).bind fun x49 =>
 (wQL x49).bind fun x62 =>
 some (x49,x6)
 else
 some (p2,p3)
 else
 some (p2,p3)
 else
 (wBf 0 (↑p1.Squad.Classes.length:Int) (fun k92 (l88,x91) =>
 if (↑k92:Int)=p4 then
 some (l88,x91)
 else
 (wCy p1 (↑k92:Int) (↑p0.length:Int)).bind fun x129 =>
 if x129=true then
 (wBH p0).bind fun x145 =>
 (app 8 x145 [(↑k92:Int)]).bind fun x163 =>
 (rec_ x163 p1 l88 x91 p4 ()).bind fun (x364,x365) =>
 some (x364,x365)
 else
 some (l88,x91)) (p2,p3)).bind fun (y97,y98) =>
 some (y97,y98)
def wCz:Nat->(List Int)->wAp->(List Int)->Int->Int->Unit->Option ((List Int) × Int)
 | 0=>fun _ _ _ _ _ _=>none
 | n_ + 1=>wDT (wCz n_)
def wCm (p0:wAp) (p1:Int):Option ((List Int) × Int) :=
 (wCz 1000 [] p0 ([]:List Int) 0 p1 ()).bind fun (x57,x58) =>
 some (x57,x58)
def wGe (p0:wAL) (p1:wBX):Option ((List Int) × Int × Int) :=
 (wCx p0 p1).bind fun x9 =>
 if x9=0 then
 (wCm (⟨p1,p0⟩:wAp) (-1)).bind fun (x24,x25) =>
 if x24=[] then
 some ([],0,6)
 else
 some (x24,x25,0)
 else
 some ([],0,x9)
def wBx (p0:Int):Option (Bool) :=
 (wBO p0 (-1000000) 1000000).bind fun x1 =>
 some x1
def wDX (p0:Int):Option (Bool) :=
 some (decide (0 <= p0))
def wGC (p0:wAL) (p1:wBX) (p2:List Int) (p3:List Int):Option (Int × Int) :=
 (wCx p0 p1).bind fun x9 =>
 if x9=0 then
 if (↑p2.length:Int)=(↑p0.Classes.length:Int) then
 if (↑p3.length:Int)=(↑p1.Classes.length:Int) then
 (wBN p2 wBx).bind fun x27 =>
 if x27=true then
 (wBN p3 wBx).bind fun x42 =>
 if x42=true then
 (wBN p3 wDX).bind fun x56 =>
 if x56=true then
 jn (wFX 0 (↑p3.length:Int) (fun k82 _ =>
 (idx p3 (↑k82:Int)).bind fun x106 =>
 jn (wFX 0 (↑p2.length:Int) (fun k116 _ =>
 (idx p2 (↑k116:Int)).bind fun x145 =>
 (wCy (⟨p1,p0⟩:wAp) (↑k82:Int) (↑k116:Int)).bind fun x175 =>
 if x175=true then
 (idx p1.Times (↑k82:Int)).bind fun x187 =>
 (idx x187 (↑k116:Int)).bind fun x200 =>
 if x200 < (w64 (x145 - x106)) then
 esc (esc (some (0,8)))
 else
 some (.inl ())
 else
 some (.inl ())) ()) fun _ =>
 some (.inl ())) ()) fun _ =>
 (wFg p2).bind fun x260 =>
 (wFg p3).bind fun x273 =>
 some (w64 (x260 - (w64 (p0.Each * x273))),0)
 else
 some (0,8)
 else
 some (0,3)
 else
 some (0,3)
 else
 some (0,2)
 else
 some (0,2)
 else
 some (0,x9)
def wGf (p0:wAL) (p1:wBX) (p2:Int):Option (Int × Int) :=
 (wCx p0 p1).bind fun x9 =>
 if x9=0 then
 (wBO p2 0 (w64 ((↑p1.Classes.length:Int) - 1))).bind fun x21 =>
 if x21=true then
 (wCm (⟨p1,p0⟩:wAp) (-1)).bind fun (x46,x47) =>
 (wCm (⟨p1,p0⟩:wAp) p2).bind fun (x64,x65) =>
 if x64=[] then
 some (0,6)
 else
 some (w64 (x65 - x47),0)
 else
 some (0,1)
 else
 some (0,x9)
def wBk (p0:wAD) (p1:(wAD->Option Bool)):Option (Bool) :=
 (p1 p0).bind fun x5 =>
 some (!x5)
def wBW (p0:List wAD) (p1:(wAD->Option Bool)):Option (Int) :=
 jn (wFX 0 (↑p0.length:Int) (fun k2 _ =>
 (idx p0 (↑k2:Int)).bind fun x22 =>
 (p1 x22).bind fun x30 =>
 if x30=true then
 esc (some (↑k2:Int))
 else
 some (.inl ())) ()) fun _ =>
 some (-1)
def wBM (p0:List wAD) (p1:(wAD->Option Bool)):Option (Bool) :=
 (wBW p0 p1).bind fun x1 =>
 some (decide (0 <= x1))
def wDr (p0:List wAD) (p1:(wAD->Option Bool)):Option (Bool) :=
 (wBM p0 (fun x=>wBk x p1)).bind fun x13 =>
 some (!x13)
def wDJ (p0:wAD):Option (Bool) :=
 some (decide (p0.Lo <= p0.Hi))
def wFh (p0:List wAD):Option ((List wAD) × Int) :=
 if 40 < (↑p0.length:Int) then
 some ([],2)
 else
 (wDr p0 wDJ).bind fun x7 =>
 if x7=true then
 (wBf 0 (↑p0.length:Int) (fun k36 l32 =>
 (idx p0 (↑k36:Int)).bind fun x60 =>
 (wBf 0 (↑p0.length:Int) (fun k93 (x91,x92) =>
 (idx p0 (↑k93:Int)).bind fun x122 =>
 if (↑k93:Int)=(↑k36:Int) then
 some (x91,x92)
 else
 if x122.Hi < x60.Lo then
 if x122.Lo < x60.Hi then
 some (w64 (x91 + 1),w64 (x92 + 1))
 else
 some (w64 (x91 + 1),x92)
 else
 if x122.Lo < x60.Hi then
 some (x91,w64 (x92 + 1))
 else
 some (x91,x92)) (1,1)).bind fun (y98,y99) =>
 (app 16 l32 [(⟨y98,y99⟩:wAD)]).bind fun x193 =>
 some x193) []).bind fun y41 =>
 some (y41,0)
 else
 some ([],3)
def wCn (p0:List wAD) (p1:List wAD):Option (Bool) :=
 if (↑p0.length:Int)=(↑p1.length:Int) then
 jn (wFX 0 (↑p0.length:Int) (fun k4 _ =>
 (idx p0 (↑k4:Int)).bind fun x26 =>
 (idx p1 (↑k4:Int)).bind fun x34 =>
 if x26=x34 then
 some (.inl ())
 else
 esc (some false)) ()) fun _ =>
 some true
 else
 some false
def wBU :Option (Bool) :=
 (wCW).bind fun x1 =>
 (idx x1 0).bind fun x21 =>
 (wCv x21).bind fun (x33,x34) =>
 (wCW).bind fun x51 =>
 (idx x51 3).bind fun x71 =>
 (wCv x71).bind fun (x83,x84) =>
 (wCT).bind fun x101 =>
 (wDx x101).bind fun (x131,x132) =>
 (wCT).bind fun x147 =>
 (wFf x147).bind fun (x177,x178) =>
 (wCT).bind fun x191 =>
 (wGB x191).bind fun (x221,x222) =>
 (if x34=0 then
 if x84=0 then
 if x132=0 then
 if x178=0 then
 if x222=0 then
 if x33=(⟨1,0,0⟩:wAi) then
 if x83=(⟨0,1,3⟩:wAi) then
 (wCJ x131 [[2200,4600],[2150,4800]]).bind fun x310 =>
 if x310=true then
 (wCF x177 [(⟨7,1,4600⟩:wAE),(⟨3,2,8400⟩:wAE)]).bind fun x338 =>
 if x338=true then
 (wCJ x221 [[],[]]).bind fun x370 =>
 some (!x370)
 else
 some true
 else
 some true
 else
 some true
 else
 some true
 else
 some true
 else
 some true
 else
 some true
 else
 some true
 else
 some true).bind fun b242 =>
 if b242=true then
 some false
 else
 (wCT).bind fun x408 =>
 (wCY).bind fun x435 =>
 (wGe x408.Rules x435).bind fun (x473,x474,x475) =>
 ((wCY).bind fun x583 =>
 (wGC x408.Rules x583 [2250,2400] [0,0,0]).bind fun (x644,x645) =>
 some (x645,x644)).bind fun (x488,x489) =>
 (wCY).bind fun x1066 =>
 (wGf x408.Rules x1066 2).bind fun (x1101,x1102) =>
 (wFh [(⟨100,200⟩:wAD),(⟨150,300⟩:wAD),(⟨250,260⟩:wAD)]).bind fun (x1122,x1123) =>
 if x475=0 then
 if x488=0 then
 if x1102=0 then
 if x1123=0 then
 (wCp x473 [2,1]).bind fun x1171 =>
 if x1171=true then
 if x474=4650 then
 if x489=4650 then
 if x1101=50 then
 (wCn x1122 [(⟨1,2⟩:wAD),(⟨1,3⟩:wAD),(⟨2,3⟩:wAD)]).bind fun x1205 =>
 some x1205
 else
 some false
 else
 some false
 else
 some false
 else
 some false
 else
 some false
 else
 some false
 else
 some false
 else
 some false
def wDs (p0:Int) (p1:Int) (p2:Int):Option (Bool) :=
 if p1 <= p0 then
 some (decide (p0 <= p2))
 else
 some false
def wDK (p0:List Int) (p1:(Int->Option Bool)):Option (Bool) :=
 jn (wFX 0 (↑p0.length:Int) (fun k2 _ =>
 (idx p0 (↑k2:Int)).bind fun x22 =>
 (p1 x22).bind fun x30 =>
 if x30=true then
 some (.inl ())
 else
 esc (some false)) ()) fun _ =>
 some true
def wDa (p0:Int):Option (Bool) :=
 (wDs p0 0 360000).bind fun x1 =>
 some x1
def wCC (p0:List wAD) (p1:(wAD->Option Bool)):Option (Bool) :=
 jn (wFX 0 (↑p0.length:Int) (fun k2 _ =>
 (idx p0 (↑k2:Int)).bind fun x22 =>
 (p1 x22).bind fun x37 =>
 if x37=true then
 some (.inl ())
 else
 esc (some false)) ()) fun _ =>
 some true
def wDb (p0:wAD) (p1:Int) (p2:Int):Option (Bool) :=
 if p0.Lo <= p0.Hi then
 if p1 <= p0.Lo then
 some (decide (p0.Hi <= p2))
 else
 some false
 else
 some false
def wDc (p0:wAD):Option (Bool) :=
 (wDb p0 0 360000).bind fun x5 =>
 some x5
def wBi (p0:List wAR) (p1:(wAR->Option Bool)):Option (Bool) :=
 jn (wFX 0 (↑p0.length:Int) (fun k2 _ =>
 (idx p0 (↑k2:Int)).bind fun x22 =>
 (p1 x22).bind fun x37 =>
 if x37=true then
 some (.inl ())
 else
 esc (some false)) ()) fun _ =>
 some true
def wDd (p0:wAR):Option (Bool) :=
 (wDb p0.Offset (-36000) 36000).bind fun x5 =>
 if x5=true then
 (wDs p0.Error 0 600).bind fun x17 =>
 some x17
 else
 some false
def wBA (p0:List wAP) (p1:(wAP->Option Bool)):Option (Bool) :=
 jn (wFX 0 (↑p0.length:Int) (fun k2 _ =>
 (idx p0 (↑k2:Int)).bind fun x22 =>
 (p1 x22).bind fun x37 =>
 if x37=true then
 some (.inl ())
 else
 esc (some false)) ()) fun _ =>
 some true
def wDe (p0:wAP):Option (Bool) :=
 (wDs p0.Time 0 360000).bind fun x5 =>
 some x5
def wBF (p0:wAF) (p1:wAa):Option (Bool) :=
 (wDs p1.Skier 0 (w64 ((↑p0.Starts.length:Int) - 1))).bind fun x9 =>
 if x9=true then
 (wDs p1.Mat 0 (↑p0.Splits.length:Int)).bind fun x21 =>
 some x21
 else
 some false
def wDf (p0:wAP) (p1:wAF):Option (Bool) :=
 (wBF p1 (⟨p0.Skier,p0.Mat⟩:wAa)).bind fun x5 =>
 if x5=true then
 (wDs p0.Clock 0 (w64 ((↑p1.Clocks.length:Int) - 1))).bind fun x18 =>
 some x18
 else
 some false
def wFJ (p0:wAF):Option (Int) :=
 (wDs (↑p0.Starts.length:Int) 1 8).bind fun x10 =>
 if x10=true then
 if 7 < (↑p0.Splits.length:Int) then
 some 2
 else
 if 4 < (↑p0.Clocks.length:Int) then
 some 2
 else
 if 40 < (↑p0.Readings.length:Int) then
 some 2
 else
 (wDK p0.Starts wDa).bind fun x35 =>
 if x35=true then
 (wCC p0.Splits wDc).bind fun x52 =>
 if x52=true then
 (wBi p0.Clocks wDd).bind fun x70 =>
 if x70=true then
 (wBA p0.Readings wDe).bind fun x92 =>
 if x92=true then
 (wBA p0.Readings (fun x=>wDf x p0)).bind fun x116 =>
 if x116=true then
 some 0
 else
 some 1
 else
 some 3
 else
 some 3
 else
 some 3
 else
 some 3
 else
 some 2
def wDD :Option (wAK) :=
 some (⟨-1,0⟩:wAK)
def wCo {S E:Type} (f:S->wAO->Option (S ⊕ E)) (s0:S) (p1:wAF):Option (S ⊕ E) :=
 jn (wFX 0 4 (fun k12 s10 =>
  (idx ([1,(↑p1.Splits.length:Int),(↑p1.Clocks.length:Int),(↑p1.Readings.length:Int)]:List Int) (↑k12:Int)).bind fun x33 =>
  (if (↑k12:Int)=2 then
   some (true,s10)
  else
   some (decide ((↑k12:Int)=3),s10)).bind fun (b37,s38) =>
  if b37=true then
   jn (wFX 0 1 (fun k78 s76 =>
    jn (wFX 0 x33 (fun k113 s111 =>
     (f s111 (⟨(↑k12:Int),(↑k78:Int),(↑k113:Int),true⟩:wAO)).bind fun yr141 =>
     match yr141 with
     | .inl s151 =>
      (f s151 (⟨(↑k12:Int),(↑k78:Int),(↑k113:Int),false⟩:wAO)).bind fun yr154 =>
      match yr154 with
      | .inl s164 =>
       some (.inl s164)
      | .inr s164 =>
       esc (esc (esc (some (.inr s164))))
     | .inr s151 =>
      esc (esc (esc (some (.inr s151))))) s76) fun y195 =>
    some (.inl y195)) s38) fun y219 =>
   some (.inl y219)
  else
   jn (wFX 0 (↑p1.Starts.length:Int) (fun k247 s245 =>
    jn (wFX 0 x33 (fun k282 s280 =>
     (f s280 (⟨(↑k12:Int),(↑k247:Int),(↑k282:Int),true⟩:wAO)).bind fun yr310 =>
     match yr310 with
     | .inl s320 =>
      (f s320 (⟨(↑k12:Int),(↑k247:Int),(↑k282:Int),false⟩:wAO)).bind fun yr323 =>
      match yr323 with
      | .inl s333 =>
       some (.inl s333)
      | .inr s333 =>
       esc (esc (esc (some (.inr s333))))
     | .inr s320 =>
      esc (esc (esc (some (.inr s320))))) s245) fun y364 =>
    some (.inl y364)) s38) fun y388 =>
   some (.inl y388)) s0) fun y409 =>
 some (.inl y409)
def wDz (p0:wAF):Option (Unit) :=
 some ()
def wEy (p0:wAF) (p1:wAO):Option (wAK × wAK) :=
 ((wDD).bind fun x22 =>
 some (x22.skier,x22.mat)).bind fun (x17,x18) =>
 some ((⟨x17,x18⟩:wAK),(⟨p1.Skier,0⟩:wAK))
def wEz (p0:wAF) (p1:wAO):Option (Int × Int) :=
 (idx p0.Starts p1.Skier).bind fun x11 =>
 some (x11,w64 (-x11))
def wFA (p0:wAF) (p1:wAO):Option (wAK × wAK) :=
 (some ()).bind fun _ =>
 some ((⟨p1.Skier,p1.Index⟩:wAK),(⟨p1.Skier,w64 (p1.Index + 1)⟩:wAK))
def wFB (p0:wAF) (p1:wAO):Option (Int × Int) :=
 (idx p0.Splits p1.Index).bind fun x11 =>
 some (x11.Hi,w64 (-x11.Lo))
def wEH (p0:Int):Option (wAK) :=
 some (⟨-1,w64 (1 + p0)⟩:wAK)
def wFC (p0:wAF) (p1:wAO):Option (wAK × wAK) :=
 (wDD).bind fun x19 =>
 (wEH p1.Index).bind fun x29 =>
 some (x19,x29)
def wFD (p0:wAF) (p1:wAO):Option (Int × Int) :=
 (idx p0.Clocks p1.Index).bind fun x11 =>
 some (w64 (-x11.Offset.Lo),x11.Offset.Hi)
def wEb (p0:wAF) (p1:wAO):Option (wAK × wAK) :=
 (idx p0.Readings p1.Index).bind fun x17 =>
 ((wEH x17.Clock).bind fun x36 =>
 some (x36.skier,x36.mat)).bind fun (x31,x32) =>
 some ((⟨x31,x32⟩:wAK),(⟨x17.Skier,x17.Mat⟩:wAK))
def wEc (p0:wAF) (p1:wAO):Option (Int × Int) :=
 (idx p0.Readings p1.Index).bind fun x9 =>
 (idx p0.Clocks x9.Clock).bind fun x25 =>
 some (w64 (x9.Time + x25.Error),w64 (x25.Error - x9.Time))
def wDO :Option (Unit) :=
 some ()
def wCf (p0:wAF) (p1:wAO):Option (wAK × wAK × Int) :=
 if p1.Kind=0 then
 ((wDO).bind fun _ =>
 some ()).bind fun _ =>
 (wEy p0 p1).bind fun (x92,x93) =>
 (wEz p0 p1).bind fun (x113,x114) =>
 if p1.Up=true then
 (some ()).bind fun _ =>
 some (x92,x93,x113)
 else
 some (x93,x92,x114)
 else
 if p1.Kind=1 then
 ((wDO).bind fun _ =>
 some ()).bind fun _ =>
 (wFA p0 p1).bind fun (x251,x252) =>
 (wFB p0 p1).bind fun (x272,x273) =>
 if p1.Up=true then
 (some ()).bind fun _ =>
 some (x251,x252,x272)
 else
 some (x252,x251,x273)
 else
 if p1.Kind=2 then
 ((wDO).bind fun _ =>
 some ()).bind fun _ =>
 (wFC p0 p1).bind fun (x410,x411) =>
 (wFD p0 p1).bind fun (x431,x432) =>
 if p1.Up=true then
 (some ()).bind fun _ =>
 some (x410,x411,x431)
 else
 some (x411,x410,x432)
 else
 if p1.Kind=3 then
 ((wDO).bind fun _ =>
 some ()).bind fun _ =>
 (wEb p0 p1).bind fun (x569,x570) =>
 (wEc p0 p1).bind fun (x590,x591) =>
 if p1.Up=true then
 (some ()).bind fun _ =>
 some (x569,x570,x590)
 else
 some (x570,x569,x591)
 else
 (wDO).bind fun _ =>
 none
def wEd (p0:wAF):Option (wAu) :=
 ((wDD).bind fun x22 =>
 some (wHq ([]:List (wAK × Int)) x22 0)).bind fun l13 =>
 (wDz p0).bind fun _ =>
 (wCo (S:=(List wAm) × (List (wAK × Int))) (E:=Empty) (fun (l1269,l1273) x1294 =>
  (wCf p0 x1294).bind fun (x1330,x1331,x1332) =>
  (wBf 0 2 (fun k1370 l1367 =>
   (idx ([x1330,x1331]:List wAK) (↑k1370:Int)).bind fun x1396 =>
   if (wNf l1367 x1396)=true then
    some l1367
   else
    some (wHq l1367 x1396 (↑(l1367.length):Int))) l1273).bind fun y1375 =>
  (app 56 l1269 [(⟨x1294,(wBE y1375 x1330 0),(wBE y1375 x1331 0),x1332⟩:wAm)]).bind fun x1451 =>
  some (.inl (x1451,y1375))) ([],l13) p0).bind fun rr1284 =>
 match rr1284 with
 | .inl (y1808,y1809) =>
  some (⟨p0,y1809,y1808⟩:wAu)
 | .inr e1814 =>
  e1814.elim
def wEU (p0:wAF):Option ((Option wAu) × Int) :=
 (wFJ p0).bind fun x5 =>
 if x5=0 then
 (wEd p0).bind fun x21 =>
 some ((some x21),0)
 else
 some (none,x5)
def wBR (p0:List wAa) (p1:(wAa->Option Bool)):Option (Bool) :=
 jn (wFX 0 (↑p0.length:Int) (fun k2 _ =>
 (idx p0 (↑k2:Int)).bind fun x22 =>
 (p1 x22).bind fun x37 =>
 if x37=true then
 some (.inl ())
 else
 esc (some false)) ()) fun _ =>
 some true
def wEe (p0 p1:Int):Option (Int × Int):=if 0 <= p0/\p0 < 18446744073709551616/\0 <= p1/\p1 < 18446744073709551616 then some (p0 * p1 / 18446744073709551616,p0 * p1 % 18446744073709551616) else none
def wBS (p0:List Int) (p1:Int):Option ((List Int)) :=
 if p1 < 0 then
 none
 else
 (wEe (wOt (↑p0.length:Int)) (wOt p1)).bind fun (x4,x5) =>
 (if 0 < x4 then
 some true
 else
 some (decide (9223372036854775807 < x5))).bind fun b15 =>
 if b15=true then
 none
 else
 (mkz 8 (w64 x5) (0:Int)).bind fun x35 =>
 (wPe x35 0 p0).bind fun x45 =>
 iter (fun (l58,x59) =>
 if x59 < (↑l58.length:Int) then
 (cut l58 x59 (↑(l58.length):Int)).bind fun x77 =>
 (cut l58 0 x59).bind fun x86 =>
 (wPe l58 x59 x86).bind fun x95 =>
 some (.inl (x95,w64 (x59 + (↑(min x86.length (x77.length)):Int))))
 else
 esc (some l58)) big (x45,(↑(min p0.length (x35.length)):Int))
def wAw (p0:wAu) (p1:Int) (p2:Bool):Option (wER × Int × Bool) :=
 ((wBS [1125899906842624] (↑(p0.number.length):Int)).bind fun x28 =>
 (wBS [-1] (↑(p0.number.length):Int)).bind fun x51 =>
 some (x28,x51)).bind fun (l9,l12) =>
 (wBf 0 (↑l9.length:Int) (fun k449 l448 =>
 if p1 < 0 then
 (chk (↑k449:Int) l448.length).bind fun _ =>
 some (nG l448 k449 0)
 else
 if (↑k449:Int)=p1 then
 (chk (↑k449:Int) l448.length).bind fun _ =>
 some (nG l448 k449 0)
 else
 some l448) l9).bind fun y454 =>
 jn (wFX 0 (w64 ((↑(p0.number.length):Int) + 1)) (fun k531 (l528,l529,x530) =>
 (wBf 0 (↑p0.edges.length:Int) (fun k570 (l567,l568,x569) =>
 ((idx p0.edges (↑k570:Int)).bind fun x607 =>
 if p2=true then
 (chk x607.to_ l567.length).bind fun _ =>
 if (gd l567 x607.to_.toNat) < 1125899906842624 then
 (chk x607.from_ l567.length).bind fun _ =>
 if (w64 ((gd l567 x607.to_.toNat) + x607.count)) < (gd l567 x607.from_.toNat) then
 ((chk x607.from_ l568.length).bind fun _ =>
 some ()).bind fun _ =>
 some ((nG l567 x607.from_.toNat (w64 ((gd l567 x607.to_.toNat) + x607.count))),(nG l568 x607.from_.toNat (↑k570:Int)),x607.from_)
 else
 some (l567,l568,x569)
 else
 some (l567,l568,x569)
 else
 (chk x607.from_ l567.length).bind fun _ =>
 if (gd l567 x607.from_.toNat) < 1125899906842624 then
 (chk x607.to_ l567.length).bind fun _ =>
 if (w64 ((gd l567 x607.from_.toNat) + x607.count)) < (gd l567 x607.to_.toNat) then
 ((chk x607.to_ l568.length).bind fun _ =>
 some ()).bind fun _ =>
 some ((nG l567 x607.to_.toNat (w64 ((gd l567 x607.from_.toNat) + x607.count))),(nG l568 x607.to_.toNat (↑k570:Int)),x607.to_)
 else
 some (l567,l568,x569)
 else
 some (l567,l568,x569)).bind fun (l601,l602,x603) =>
 some (l601,l602,x603)) (l528,l529,-1)).bind fun (y575,y576,y577) =>
 if y577 < 0 then
 esc (some ((⟨y575,y576⟩:wER),0,true))
 else
 some (.inl (y575,y576,y577))) (y454,l12,-1)) fun (y916,y917,y918) =>
 some ((⟨y916,y917⟩:wER),y918,false)
def wDL (p0:wAu):Option (Bool) :=
 (wAw p0 (-1) false).bind fun (x3,x4,x5) =>
 some x5
def wEV (p0:wAF) (p1:List wAa):Option ((Option wAu) × Int) :=
 (wEU p0).bind fun (x5,x6) =>
 match x5 with
 | none =>
  if x6=0 then
   (wBR p1 (fun x=>wBF p0 x)).bind fun x40 =>
   if x40=true then
    none
   else
    some (none,1)
  else
   some (none,x6)
 | some x30 =>
  if x6=0 then
   (wBR p1 (fun x=>wBF p0 x)).bind fun x71 =>
   if x71=true then
    (wDL x30).bind fun x96 =>
    if x96=true then
     some ((some x30),0)
    else
     some (none,7)
   else
    some (none,1)
  else
   some (none,x6)
def wEf (p0:wAF) (p1:Int):Option ((Option wAu) × Int) :=
 (wEV p0 [(⟨0,p1⟩:wAa)]).bind fun (x19,x20) =>
 match x19 with
 | none =>
  some (none,x20)
 | some x44 =>
  some ((some x44),x20)
def wCb (p0:wAu) (p1:Int):Option ((Arr Int 64)) :=
 (wBf 0 (↑p0.Race.Starts.length:Int) (fun k19 a18 =>
 (wAw p0 (wBE p0.number (⟨(↑k19:Int),p1⟩:wAK) 0) false).bind fun (x47,x48,x49) =>
 (wBf 0 (↑p0.Race.Starts.length:Int) (fun k79 a78 =>
 (chk (wBE p0.number (⟨(↑k79:Int),p1⟩:wAK) 0) x47.far.length).bind fun _ =>
 (chk (↑k19:Int) 8).bind fun _ =>
 (chk (↑k79:Int) 8).bind fun _ =>
 some (a78.set (k19 * 8 + k79) (gd x47.far (wBE p0.number (⟨(↑k79:Int),p1⟩:wAK) 0).toNat))) a18).bind fun y84 =>
 some y84) (Arr.fill 64 0)).bind fun y24 =>
 some y24
def wBZ (p0:wAF) (p1:Int):Option ((List wAD) × Int) :=
 (wEf p0 p1).bind fun (x5,x6) =>
 match x5 with
 | none =>
  if x6=0 then
   none
  else
   some ([],x6)
 | some x30 =>
  if x6=0 then
   (wCb x30 p1).bind fun x48 =>
   (wBf 0 (↑p0.Starts.length:Int) (fun k83 l79 =>
    (wBf 0 (↑p0.Starts.length:Int) (fun k124 (x122,x123) =>
     (chk (↑k83:Int) 8).bind fun _ =>
     (chk (↑k124:Int) 8).bind fun _ =>
     if (x48.get (k83 * 8 + k124)) < 0 then
      if 0 < (x48.get (k124 * 8 + k83)) then
       some (w64 (x122 + 1),w64 (x123 + 1))
      else
       some (w64 (x122 + 1),x123)
     else
      if 0 < (x48.get (k124 * 8 + k83)) then
       some (x122,w64 (x123 + 1))
      else
       some (x122,x123)) (1,1)).bind fun (y129,y130) =>
    (app 16 l79 [(⟨y129,y130⟩:wAD)]).bind fun x207 =>
    some x207) []).bind fun y88 =>
   some (y88,0)
  else
   some ([],x6)
def wGg (p0:wAa):Option (wAK) :=
 some (⟨p0.Skier,p0.Mat⟩:wAK)
def wCG (p0:wAu) (p1:wAK) (p2:wAK):Option (wAD) :=
 ((wAw p0 (wBE p0.number p1 0) false).bind fun (x26,x27,x28) =>
 some (x26.far,x26.by_)).bind fun (l17,l20) =>
 ((wAw p0 (wBE p0.number p2 0) false).bind fun (x145,x146,x147) =>
 some (x145.far,x145.by_)).bind fun (l131,l134) =>
 (chk (wBE p0.number p1 0) l131.length).bind fun _ =>
 (chk (wBE p0.number p2 0) l17.length).bind fun _ =>
 some (⟨w64 (-(gd l131 (wBE p0.number p1 0).toNat)),(gd l17 (wBE p0.number p2 0).toNat)⟩:wAD)
def wBy (p0:wAF) (p1:wAa):Option (wAD × Int) :=
 (wEV p0 [p1]).bind fun (x27,x28) =>
 match x27 with
 | none =>
  if x28=0 then
   (wDD).bind fun x58 =>
   (wGg p1).bind fun x68 =>
   none
  else
   some ((⟨0,0⟩:wAD),x28)
 | some x52 =>
  if x28=0 then
   (wDD).bind fun x95 =>
   (wGg p1).bind fun x105 =>
   (wCG x52 x95 x105).bind fun x125 =>
   some (x125,0)
  else
   some ((⟨0,0⟩:wAD),x28)
def wAy (p0:Int) (p1:wAD):Option (Bool) :=
 if p1.Lo <= p0 then
 some (decide (p0 <= p1.Hi))
 else
 some false
def wBl (p0:List Int) (p1:List Int):Option (Bool) :=
 (wCM p0).bind fun x1 =>
 (wCE x1 6 1).bind fun (x16,x17) =>
 (wCM p1).bind fun x47 =>
 (wES x16).bind fun (x75,x76) =>
 (wDB x16 0).bind fun (x103,x104) =>
 if x76=0 then
 if x104=0 then
 if (↑x75.Times.length:Int)=(↑x16.Teams.length:Int) then
 if (↑x103.length:Int)=(↑x16.Teams.length:Int) then
 (wBf 0 x16.Rules.Laps (fun k162 l158 =>
 (app 16 l158 [(⟨1,9000⟩:wAD)]).bind fun x193 =>
 some x193) []).bind fun y167 =>
 (wBf 0 (↑x75.Times.length:Int) (fun k355 (l330,l334,l338,l342,x345,x346,l347,l351) =>
 (idx x75.Times (↑k355:Int)).bind fun x406 =>
 if (↑x406.length:Int) < x16.Rules.Laps then
 some (l330,l334,l338,l342,x345,x346,l347,l351)
 else
 (app 8 [x16.Start] x406).bind fun x447 =>
 (wBf 0 (↑x447.length:Int) (fun k501 (l490,l493,l496,x499,x500) =>
 (chk (↑k501:Int) x447.length).bind fun _ =>
 (wAe (⟨l496,x499,x500⟩:wAC) 2).bind fun (x550,x551) =>
 if x550=true then
 (app 32 l490 [(⟨(↑l334.length:Int),(↑k501:Int),0,(gd x447 k501)⟩:wAP)]).bind fun x572 =>
 (app 32 l493 [(⟨(↑l334.length:Int),(↑k501:Int),0,w64 ((gd x447 k501) + 17)⟩:wAP)]).bind fun x591 =>
 some (x572,x591,x551.bytes,x551.next,x551.state)
 else
 (app 32 l493 [(⟨(↑l334.length:Int),(↑k501:Int),0,w64 ((gd x447 k501) + 17)⟩:wAP)]).bind fun x622 =>
 some (l490,x622,x551.bytes,x551.next,x551.state)) (l330,l338,l342,x345,x346)).bind fun (y506,y507,y508,y509,y510) =>
 (app 8 l334 [x16.Start]).bind fun x689 =>
 (idx x406 (w64 (x16.Rules.Laps - 1))).bind fun x697 =>
 (app 8 l347 [x697]).bind fun x710 =>
 (app 8 l351 [(↑k355:Int)]).bind fun x723 =>
 some (y506,x689,y507,y508,y509,y510,x710,x723)) ([],[],[],x47.bytes,x47.next,x47.state,[],[])).bind fun (y360,y361,y362,y363,y364,y365,y366,y367) =>
 if (↑y361.length:Int)=0 then
 (wBU).bind fun x1237 =>
 some x1237
 else
 (wBZ (⟨y361,y167,[(⟨(⟨-30,30⟩:wAD),0⟩:wAR)],y362⟩:wAF) x16.Rules.Laps).bind fun (x1274,x1275) =>
 (wBZ (⟨y361,y167,[(⟨(⟨0,0⟩:wAD),0⟩:wAR)],y360⟩:wAF) x16.Rules.Laps).bind fun (x1305,x1306) =>
 if x1275=0 then
 if x1306=0 then
 if (↑x1274.length:Int)=(↑y367.length:Int) then
 if (↑x1305.length:Int)=(↑y367.length:Int) then
 jn (wFX 0 (↑y367.length:Int) (fun k1341 _ =>
 (chk (↑k1341:Int) y367.length).bind fun _ =>
 (wBy (⟨y361,y167,[(⟨(⟨-30,30⟩:wAD),0⟩:wAR)],y362⟩:wAF) (⟨(↑k1341:Int),x16.Rules.Laps⟩:wAa)).bind fun (x1386,x1387) =>
 (wBy (⟨y361,y167,[(⟨(⟨0,0⟩:wAD),0⟩:wAR)],y360⟩:wAF) (⟨(↑k1341:Int),x16.Rules.Laps⟩:wAa)).bind fun (x1412,x1413) =>
 if x1387=0 then
 if x1413=0 then
 (chk (↑k1341:Int) y366.length).bind fun _ =>
 if x1386=(⟨(gd y366 k1341),(gd y366 k1341)⟩:wAD) then
 (wAy (gd y366 k1341) x1412).bind fun x1445 =>
 if x1445=true then
 (chk (↑k1341:Int) x1274.length).bind fun _ =>
 (chk (gd y367 k1341) x103.length).bind fun _ =>
 if (gd x1274 k1341)=(⟨(gd x103 (gd y367 k1341).toNat),(gd x103 (gd y367 k1341).toNat)⟩:wAD) then
 (chk (↑k1341:Int) x1305.length).bind fun _ =>
 (wAy (gd x103 (gd y367 k1341).toNat) (gd x1305 k1341)).bind fun x1476 =>
 if x1476=true then
 some (.inl ())
 else
 esc (some false)
 else
 esc (some false)
 else
 esc (some false)
 else
 esc (some false)
 else
 esc (some false)
 else
 esc (some false)) ()) fun _ =>
 (wBU).bind fun x1554 =>
 some x1554
 else
 some false
 else
 some false
 else
 some false
 else
 some false
 else
 some false
 else
 some false
 else
 some false
 else
 some false
end
open Go.KL Go.KL.Net
structure EdOK (n:Nat) (e:wAm):Prop where
 f0:0 <= e.from_
 f1:e.from_ < n
 t0:0 <= e.to_
 t1:e.to_ < n
 c0:-400000 <= e.count
 c1:e.count <= 400000
def ed (p:Bool) (e:wAm):Ed:=if p then ⟨e.to_.toNat,e.from_.toNat,e.count⟩ else ⟨e.from_.toNat,e.to_.toNat,e.count⟩
abbrev SS:=List Int × List Int × Int
def spB (es:List wAm) (p2:Bool):Nat->SS->Option SS:=fun k1375 (l1372,l1373,x1374) =>
 ((idx es (↑k1375:Int)).bind fun x1412 =>
 if p2=true then
 (chk x1412.to_ l1372.length).bind fun _ =>
 if (gd l1372 x1412.to_.toNat) < 1125899906842624 then
 (chk x1412.from_ l1372.length).bind fun _ =>
 if (w64 ((gd l1372 x1412.to_.toNat) + x1412.count)) < (gd l1372 x1412.from_.toNat) then
 ((chk x1412.from_ l1373.length).bind fun _ =>
 some ()).bind fun _ =>
 some ((nG l1372 x1412.from_.toNat (w64 ((gd l1372 x1412.to_.toNat) + x1412.count))),(nG l1373 x1412.from_.toNat (↑k1375:Int)),x1412.from_)
 else
 some (l1372,l1373,x1374)
 else
 some (l1372,l1373,x1374)
 else
 (chk x1412.from_ l1372.length).bind fun _ =>
 if (gd l1372 x1412.from_.toNat) < 1125899906842624 then
 (chk x1412.to_ l1372.length).bind fun _ =>
 if (w64 ((gd l1372 x1412.from_.toNat) + x1412.count)) < (gd l1372 x1412.to_.toNat) then
 ((chk x1412.to_ l1373.length).bind fun _ =>
 some ()).bind fun _ =>
 some ((nG l1372 x1412.to_.toNat (w64 ((gd l1372 x1412.from_.toNat) + x1412.count))),(nG l1373 x1412.to_.toNat (↑k1375:Int)),x1412.to_)
 else
 some (l1372,l1373,x1374)
 else
 some (l1372,l1373,x1374)).bind fun (l1406,l1407,x1408) =>
 some (l1406,l1407,x1408)
theorem wRn {n:Nat} {es:List wAm} (hes:∀ e ∈ es,EdOK n e) {p:Bool} {k:Nat} (hk:k < es.length) {far by_:List Int} {last:Int} (hf:far.length=n) (hb:by_.length=n) {M:Int} (hM:M <= 1000000000000000) (h0:0 <= M) (hr:∀ v,v < n->gd far v=1125899906842624 \/ (-M <= gd far v/\gd far v <= M)) :
  (ed p (gd es k)).a < n/\(ed p (gd es k)).b < n /\
  spB es p k (far,by_,last)=some (if gd far (ed p (gd es k)).a < 1125899906842624/\gd far (ed p (gd es k)).a + (ed p (gd es k)).c < gd far (ed p (gd es k)).b then
   (far.set (ed p (gd es k)).b (gd far (ed p (gd es k)).a + (ed p (gd es k)).c),by_.set (ed p (gd es k)).b (k:Int),((ed p (gd es k)).b:Int)) else (far,by_,last)):=by
 obtain ⟨f0,f1,t0,t1,c0,c1⟩:=hes _ (wCt hk)
 have hw:∀ a:Int,0 <= a->a < n->gd far a.toNat < 1125899906842624->w64 (gd far a.toNat + (gd es k).count)=gd far a.toNat + (gd es k).count:=fun a h1 h2 h3=>by
  rcases hr a.toNat (by omega) with c | c
  ·omega
  ·exact wAX (by omega) (by omega)
 unfold spB ed
 rw [wDE hk]
 cases p with
 | true =>
  refine ⟨by simp only [if_true];omega,by simp only [if_true];omega,?_⟩
  simp only [hD,if_true]
  rw [wEB t0 (by omega),hD]
  by_cases a:gd far (gd es k).to_.toNat < 1125899906842624
  ·rw [if_pos a,wEB f0 (by omega),hD,hw _ t0 t1 a]
   by_cases b:gd far (gd es k).to_.toNat + (gd es k).count < gd far (gd es k).from_.toNat
   ·rw [if_pos b,wEB f0 (by omega),if_pos ⟨a,b⟩]
    simp only [hD]
    rw [show (((gd es k).from_.toNat:Nat):Int)=(gd es k).from_ by omega]
   ·rw [if_neg b,if_neg (fun h=>b h.2)];rfl
  ·rw [if_neg a,if_neg (fun h=>a h.1)];rfl
 | false =>
  refine ⟨by simp only [nW,if_false];omega,by simp only [nW,if_false];omega,?_⟩
  simp only [hD,nW,if_false]
  rw [wEB f0 (by omega),hD]
  by_cases a:gd far (gd es k).from_.toNat < 1125899906842624
  ·rw [if_pos a,wEB t0 (by omega),hD,hw _ f0 f1 a]
   by_cases b:gd far (gd es k).from_.toNat + (gd es k).count < gd far (gd es k).to_.toNat
   ·rw [if_pos b,wEB t0 (by omega),if_pos ⟨a,b⟩]
    simp only [hD]
    rw [show (((gd es k).to_.toNat:Nat):Int)=(gd es k).to_ by omega]
   ·rw [if_neg b,if_neg (fun h=>b h.2)];rfl
  ·rw [if_neg a,if_neg (fun h=>a h.1)];rfl
structure Ps (n:Nat) (es:List wAm) (p:Bool) (far:List Int) (M:Int) (i:Nat) (s:SS):Prop where
 fl:s.1.length=n
 bl:s.2.1.length=n
 rg:∀ v,v < n->gd s.1 v=1125899906842624 \/ (-(M + 400000 * (i:Int)) <= gd s.1 v/\gd s.1 v <= M + 400000 * (i:Int))
 le:∀ v,v < n->gd s.1 v <= gd far v
 ch:(s.2.2=-1/\s.1=far/\∀ e ∈ es.take i,gd far (ed p e).a < 1125899906842624->gd far (ed p e).b <= gd far (ed p e).a + (ed p e).c) \/ (0 <= s.2.2/\s.2.2 < n/\∃ v,v < n/\gd s.1 v < gd far v)
 fe:∀ x,wJh (es.map (ed p)) x->(∀ v,v < n->x v <= gd far v)->∀ v,v < n->x v <= gd s.1 v
 st:∀ δ,wJh (es.map (ed p)) δ->(∀ v,v < n->δ v <= gd far v)->(∀ v,v < n->δ v < 1125899906842624)->∀ e ∈ es.take i,gd far (ed p e).a=δ (ed p e).a->δ (ed p e).b=δ (ed p e).a + (ed p e).c->gd s.1 (ed p e).b=δ (ed p e).b
theorem wQf {n:Nat} {es:List wAm} (hes:∀ e ∈ es,EdOK n e) (hl:es.length <= 1000) (p:Bool) {far by_:List Int} (hf:far.length=n) (hb:by_.length=n) {M:Int} (hM:M <= 900000000000000) (h0:0 <= M) (hr:∀ v,v < n->gd far v=1125899906842624 \/ (-M <= gd far v/\gd far v <= M)) :
  ∃ s,wBf 0 (↑es.length:Int) (spB es p) (far,by_,-1)=some s/\Ps n es p far M es.length s:=by
 rw [wEv (by omega)]
 obtain ⟨s,e,P⟩:=wGM (body:=spB es p) (fun i s=>Ps n es p far M i s) es.length 0 (far,by_,-1)
  ⟨hf,hb,fun v hv=>by have:=hr v hv;simp only;omega,fun _ _=>Int.le_refl _,.inl ⟨rfl,rfl,fun e he=>by simp at he⟩,fun _ _ h=>h,fun _ _ _ _ e he=>by simp at he⟩ (by
  rintro i ⟨f,b,last⟩ _ hi P
  have hi':i < es.length:=by omega
  obtain ⟨fl,bl,rg,le,ch,fe,st⟩:=P
  simp only at fl bl rg le ch fe st
  obtain ⟨ha,hbb,e⟩:=wRn hes (p:=p) hi' (last:=last) fl bl (M:=M + 400000 * (i:Int)) (by omega) (by omega) rg
  have hm:=wCt hi'
  have hok:=hes _ hm
  have hc:-400000 <= (ed p (gd es i)).c/\(ed p (gd es i)).c <= 400000:=by
   have:=hok.c0;have:=hok.c1
   unfold ed
   split <;> exact ⟨by assumption,by assumption⟩
  have hfe:∀ x,wJh (es.map (ed p)) x->x (ed p (gd es i)).b <= x (ed p (gd es i)).a + (ed p (gd es i)).c:=fun x hx=>hx _ (nR.2 ⟨_,hm,rfl⟩)
  have hends:∀ e ∈ es.take i,(ed p e).a < n/\(ed p e).b < n:=fun e he=>by
   obtain ⟨a1,a2,a3,a4,_,_⟩:=hes e (nl he)
   unfold ed
   split <;> (simp only;omega)
  generalize hE:ed p (gd es i)=E at ha hbb e hc hfe
  rw [e]
  by_cases c:gd f E.a < 1125899906842624/\gd f E.a + E.c < gd f E.b
  ·rw [if_pos c]
   obtain ⟨c1,c2⟩:=c
   have rga:-(M + 400000 * (i:Int)) <= gd f E.a/\gd f E.a <= M + 400000 * (i:Int):=by
    rcases rg E.a ha with q | q
    ·omega
    ·exact q
   have hg:∀ v,v < n->gd (f.set E.b (gd f E.a + E.c)) v=if v=E.b then gd f E.a + E.c else gd f v:=fun v hv=>wLP (by omega) (by omega)
   refine ⟨_,rfl,by simp [fl],by simp [bl],fun v hv=>?_,fun v hv=>?_,.inr ⟨by simp only;omega,by simp only;omega,E.b,hbb,?_⟩,fun x hx hxt v hv=>?_,fun δ hδ h1 h2 e' he' g1 g2=>?_⟩
   ·simp only
    rw [hg v hv]
    split
    ·right;omega
    ·rcases rg v hv with q | q
     ·exact .inl q
     ·right;omega
   ·simp only
    rw [hg v hv]
    split
    ·rename_i h;have:=le E.b hbb;rw [h];omega
    ·exact le v hv
   ·simp only
    rw [hg _ hbb,if_pos rfl]
    have:=le E.b hbb
    omega
   ·simp only
    rw [hg v hv]
    have:=fe x hx hxt
    split
    ·rename_i h
     have a1:=this E.a ha
     have a2:=hfe x hx
     rw [h];omega
    ·exact this v hv
   ·have lo:=fe δ hδ h1
    simp only
    rw [wGW hi'] at he'
    rcases nJ.1 he' with he' | he'
    ·have old:=st δ hδ h1 h2 e' he' g1 g2
     rw [hg _ (hends e' he').2]
     split
     ·rename_i h
      have a1:=lo E.a ha
      have a2:=hfe δ hδ
      rw [h] at old ⊢
      omega
     ·exact old
    ·have:=nP.1 he'
     subst this
     rw [hE] at g1 g2 ⊢
     rw [hg _ hbb,if_pos rfl]
     have a1:=lo E.a ha
     have a2:=le E.a ha
     omega
  ·rw [if_neg c]
   refine ⟨_,rfl,fl,bl,fun v hv=>?_,le,?_,fe,fun δ hδ h1 h2 e' he' g1 g2=>?_⟩
   ·rcases rg v hv with q | q
    ·exact .inl q
    ·right;simp only;omega
   ·simp only
    rcases ch with ⟨q1,q2,q3⟩ | q
    ·refine .inl ⟨q1,q2,fun e' he' g=>?_⟩
     rw [wGW hi'] at he'
     rcases nJ.1 he' with he' | he'
     ·exact q3 e' he' g
     ·have:=nP.1 he'
      subst this
      rw [hE] at g ⊢
      rw [q2] at c
      rcases Int.lt_or_le (gd far E.a + E.c) (gd far E.b) with d | d
      ·exact absurd ⟨g,d⟩ c
      ·exact d
    ·exact .inr q
   ·have lo:=fe δ hδ h1
    rw [wGW hi'] at he'
    rcases nJ.1 he' with he' | he'
    ·exact st δ hδ h1 h2 e' he' g1 g2
    ·have:=nP.1 he'
     subst this
     rw [hE] at g1 g2 ⊢
     simp only
     have a1:=lo E.a ha
     have a2:=le E.a ha
     have a3:=lo E.b hbb
     have a4:=h2 E.a ha
     have fa:gd f E.a=δ E.a:=by omega
     rw [fa] at c
     rcases Int.lt_or_le (δ E.a + E.c) (gd f E.b) with d | d
     ·exact absurd ⟨a4,d⟩ c
     ·omega)
 rw [nm] at P
 exact ⟨s,e,P⟩
open Go.KL Go.KL.Net
theorem wHA {α:Type} [Inhabited α] (l:List α) (k:Nat):gd l k=(l[k]?).getD default:=by unfold gd;rw [nq]
theorem wOS {α:Type} {m ys:List α} {a:Nat} (h:a <= m.length):(cpy m a ys).length=m.length:=by
 unfold cpy
 simp only [nH,nM,List.length_drop]
 omega
theorem wPt {α:Type} [Inhabited α] {m ys:List α} {a j:Nat} (h:a <= m.length) (hj:j < m.length):gd (cpy m a ys) j=if j < a then gd m j else if j < a + ys.length then gd ys (j - a) else gd m j:=by
 rw [wHA,wHA,wHA]
 unfold cpy
 rw [nV]
 by_cases c:j < a
 ·rw [if_pos c,kA (by rw [nM];omega),np,if_pos c]
 ·rw [if_neg c,nu (by rw [nM];omega),nM,Nat.min_eq_left h]
  by_cases d:j < a + ys.length
  ·rw [if_pos d,kA (by rw [nM];omega),np,if_pos (by omega)]
  ·rw [if_neg d,nu (by rw [nM];omega),nM,List.getElem?_drop,Nat.min_eq_right (by omega)]
   congr 2
   omega
theorem wLQ (x:Int) {n:Nat} (h1:1 <= n) (h2:n <= 1000):wBS [x] (n:Int)=some (nA n x):=by
 unfold wBS wEe
 have e1:wOt (([x]:List Int).length:Int)=1:=rfl
 have e2:wOt (n:Int)=n:=by unfold wOt;omega
 rw [if_neg (by omega),e1,e2,if_pos (by omega),hD]
 simp only
 rw [show (1:Int) * (n:Int) / 18446744073709551616=0 by omega,show (1:Int) * (n:Int) % 18446744073709551616=n by omega,if_neg (by omega),hD,decide_eq_false (by omega),if_neg (by simp),wAX (by omega) (by omega),mkz,if_pos (by omega),hD,wPe,if_pos (by simp),hD]
 have hlen:(nA (n:Int).toNat (0:Int)).length=n:=by simp
 generalize nA (n:Int).toNat (0:Int)=z at hlen
 have e3:((min ([x]:List Int).length z.length:Nat):Int)=1:=by simp only [nO];omega
 refine wMA (I:=fun i (s:List Int × Int)=>s.1.length=n/\(i:Int) + 1 <= s.2/\s.2 <= n/\∀ j,j < s.2.toNat->gd s.1 j=x) n ⟨by rw [wOS (by simp)];exact hlen,by simp only;omega,by simp only;omega,fun j hj=>?_⟩ (by omega) ?_
 ·simp only at hj ⊢
  rw [wPt (by simp) (by omega),if_neg (by simp),if_pos (by simp only [nO];omega)]
  have:j=0:=by omega
  subst this
  rfl
 ·rintro i ⟨l,k⟩ hi ⟨q1,q2,q3,q4⟩
  simp only at q1 q2 q3 q4 ⊢
  by_cases c:k < (l.length:Int)
  ·left
   refine ⟨by omega,?_⟩
   have hd:(List.take ((l.length:Int).toNat - k.toNat) (List.drop k.toNat l)).length=l.length - k.toNat:=by
    rw [nM,List.length_drop];omega
   have ht:(List.take (k.toNat - (0:Int).toNat) (List.drop (0:Int).toNat l))=l.take k.toNat:=by simp
   rw [if_pos c,cut,if_pos (by omega),hD,cut,if_pos (by omega),hD,wPe,if_pos (by omega),hD,ht,hd,nM]
   rw [wAX (by omega) (by omega)]
   refine ⟨_,rfl,by simp only;rw [wOS (by omega)];exact q1,by simp only;omega,by simp only;omega,fun j hj=>?_⟩
   simp only at hj ⊢
   rw [wPt (by omega) (by omega),nM]
   by_cases d:j < k.toNat
   ·rw [if_pos d];exact q4 j d
   ·rw [if_neg d,if_pos (by omega)]
    have:=q4 (j - k.toNat) (by omega)
    rw [wHA] at this ⊢
    rw [np,if_pos (by omega)]
    exact this
  ·right
   rw [if_neg c,wOu]
   have:l=nA n x:=wLO (by simp [q1]) fun j hj=>by
    rw [q4 j (by omega),wMB (by simpa [q1] using hj)];simp
   rw [this]
def wJT (i:Int) (v:Nat):Int:=if i < 0 \/ (v:Int)=i then 0 else 1125899906842624
theorem wPu (i:Int) (v:Nat):0 <= wJT i v/\wJT i v <= 1125899906842624:=by unfold wJT;split <;> omega
theorem wQg {n:Nat} (i:Int) {l:List Int} (hl:l.length=n) (hn:n <= 1000) (h0:∀ v,v < n->gd l v=1125899906842624):∃ y,(wBf 0 (↑l.length:Int) (fun k1254 l1253 =>
  if i < 0 then
   (chk (↑k1254:Int) l1253.length).bind fun _ =>
   some (nG l1253 k1254 0)
  else
   if (↑k1254:Int)=i then
    (chk (↑k1254:Int) l1253.length).bind fun _ =>
    some (nG l1253 k1254 0)
   else
    some l1253) l)=some y/\y.length=n/\∀ v,v < n->gd y v=wJT i v:=by
 rw [wEv (by omega)]
 obtain ⟨y,e,y1,y2⟩:=wGM (body:=fun (k1254:Nat) (l1253:List Int) =>
  if i < 0 then
   (chk (↑k1254:Int) l1253.length).bind fun _ =>
   some (nG l1253 k1254 0)
  else
   if (↑k1254:Int)=i then
    (chk (↑k1254:Int) l1253.length).bind fun _ =>
    some (nG l1253 k1254 0)
   else
    some l1253) (fun k s=>s.length=n/\∀ v,v < n->gd s v=if v < k then wJT i v else 1125899906842624) l.length 0 l ⟨hl,fun v hv=>by rw [if_neg (by omega)];exact h0 v hv⟩ (by
  rintro k s _ hk ⟨s1,s2⟩
  have hk':k < n:=by omega
  have hset:∀ v,v < n->gd (s.set k 0) v=if v=k then 0 else gd s v:=fun v hv=>wLP (by omega) (by omega)
  by_cases c:i < 0 \/ (k:Int)=i
  ·have hb:(if i < 0 then (chk (↑k:Int) s.length).bind fun _=>some (nG s k 0) else if (↑k:Int)=i then (chk (↑k:Int) s.length).bind fun _=>some (nG s k 0) else some s)=some (s.set k 0):=by
    rw [wEB (by omega) (by omega)]
    rcases c with c | c
    ·rw [if_pos c];rfl
    ·rw [if_pos c]
     split <;> rfl
   refine ⟨_,hb,by simp [s1],fun v hv=>?_⟩
   rw [hset v hv]
   by_cases e:v=k
   ·subst e
    rw [if_pos rfl,if_pos (by omega),wJT,if_pos c]
   ·rw [if_neg e,s2 v hv]
    by_cases d:v < k
    ·rw [if_pos d,if_pos (by omega)]
    ·rw [if_neg d,if_neg (by omega)]
  ·refine ⟨s,by rw [if_neg (fun h=>c (.inl h)),if_neg (fun h=>c (.inr h))],s1,fun v hv=>?_⟩
   rw [s2 v hv]
   by_cases d:v < k
   ·rw [if_pos d,if_pos (by omega)]
   ·by_cases e:v=k
    ·subst e
     rw [if_neg (by omega),if_pos (by omega),wJT,if_neg c]
    ·rw [if_neg d,if_neg (by omega)])
 rw [nm] at y2
 exact ⟨y,e,y1,fun v hv=>by rw [y2 v hv,if_pos (by omega)]⟩
structure SpT (n:Nat) (es:List Ed) (i:Int) (far:List Int):Prop where
 fl:far.length=n
 rl:∀ e ∈ es,gd far e.a < 1125899906842624->gd far e.b <= gd far e.a + e.c
 rg:∀ v,v < n->gd far v=1125899906842624 \/ (-400000000000 <= gd far v/\gd far v <= 400000000000)
 le:∀ v,v < n->gd far v <= wJT i v
 fe:∀ x,wJh es x->(∀ v,v < n->x v <= wJT i v)->∀ v,v < n->x v <= gd far v
structure SpI (n:Nat) (es:List Ed) (i:Int) (t:Nat) (s:SS):Prop where
 fl:s.1.length=n
 bl:s.2.1.length=n
 rg:∀ v,v < n->gd s.1 v=1125899906842624 \/ (-(400000000 * (t:Int)) <= gd s.1 v/\gd s.1 v <= 400000000 * (t:Int))
 le:∀ v,v < n->gd s.1 v <= wJT i v
 fe:∀ x,wJh es x->(∀ v,v < n->x v <= wJT i v)->∀ v,v < n->x v <= gd s.1 v
 st:∀ δ,Most n es (wJT i) δ->(∀ v,v < n->δ v < 1125899906842624)->t <= wRN n δ fun v=>gd s.1 v
 la:t=0 \/ (0 <= s.2.2/\s.2.2 < n)
theorem wLR {d:wAu} {n:Nat} (hn:d.number.length=n) (h1:1 <= n) (h2:n <= 500) (hes:∀ e ∈ d.edges,EdOK n e) (hl:d.edges.length <= 1000) (i:Int) (p:Bool) :
  ∃ f last ok,wAw d i p=some (f,last,ok)/\f.by_.length=n/\f.far.length=n/\(ok=true->SpT n (d.edges.map (ed p)) i f.far)/\(ok=false->0 <= last/\last < n/\∀ δ,Most n (d.edges.map (ed p)) (wJT i) δ->¬ ∀ v,v < n->δ v < 1125899906842624):=by
 unfold wAw
 rw [hn,wLQ _ h1 (by omega),hD,wLQ _ h1 (by omega),hD,hD]
 simp only
 obtain ⟨y,e1,y1,y2⟩:=wQg (n:=n) i (l:=nA n 1125899906842624) (by simp) (by omega) (fun v hv=>by rw [wMB (by simpa using hv)];simp)
 rw [e1,hD,wAX (by omega) (by omega)]
 have hn1:((n:Int) + 1)=((n + 1:Nat):Int):=by omega
 rw [hn1,wFp (by omega)]
 have hmap:∀ e ∈ d.edges.map (ed p),e.a < n/\e.b < n:=fun e he=>by
  obtain ⟨q,hq,rfl⟩:=nR.1 he
  obtain ⟨a1,a2,a3,a4,_,_⟩:=hes q hq
  unfold ed
  split <;> (simp only;omega)
 rcases wMq (B:=wER × Int × Bool) (body:=fun (k1336:Nat) ((l1333,l1334,x1335):SS) =>
  (wBf 0 (↑d.edges.length:Int) (spB d.edges p) (l1333,l1334,-1)).bind fun (y1380,y1381,y1382) =>
  if y1382 < 0 then
   esc (some ((⟨y1380,y1381⟩:wER),0,true))
  else
   some (.inl (y1380,y1381,y1382))) (fun t s=>SpI n (d.edges.map (ed p)) i t s) (fun b=>b.2.2=true/\b.1.by_.length=n/\SpT n (d.edges.map (ed p)) i b.1.far) (n + 1) 0 (y,nA n (-1),-1)
  ⟨y1,by simp,fun v hv=>by simp only;rw [y2 v hv];unfold wJT;split <;> omega,fun v hv=>by simp only;rw [y2 v hv];exact Int.le_refl _,fun x _ hx v hv=>by simp only;rw [y2 v hv];exact hx v hv,fun _ _ _=>Nat.zero_le _,.inl rfl⟩ (by
   rintro t ⟨far,by_,last⟩ _ ht ⟨fl,bl,rg,le,fe,st,la⟩
   simp only at fl bl rg le fe st
   obtain ⟨⟨far',by',last'⟩,e,P⟩:=wQf hes hl p fl bl (M:=400000000 * (t:Int)) (by omega) (by omega) rg
   obtain ⟨gl,ql,qg,qle,ch,qfe,qst⟩:=P
   simp only at gl ql qg qle ch qfe qst
   simp only
   rw [e,hD]
   simp only
   rcases ch with ⟨c1,c2,c3⟩ | ⟨c1,c2,v,hv,c3⟩
   ·right
    subst c1
    rw [if_pos (by omega)]
    refine ⟨_,rfl,rfl,ql,gl,fun e' he' hlt=>?_,fun v hv=>?_,fun v hv=>kB (qle v hv) (le v hv),fun x hx hxt v hv=>qfe x hx (fe x hx hxt) v hv⟩
    ·obtain ⟨q,hq,rfl⟩:=nR.1 he'
     simp only at hlt ⊢
     rw [c2] at hlt ⊢
     rw [nZ] at c3
     exact c3 q hq hlt
    ·simp only
     rw [c2]
     rcases rg v hv with q | q
     ·exact .inl q
     ·right;omega
   ·left
    rw [if_neg (by omega)]
    refine ⟨_,rfl,gl,ql,fun v hv=>?_,fun v hv=>kB (qle v hv) (le v hv),fun x hx hxt v hv=>qfe x hx (fe x hx hxt) v hv,fun δ M hδ=>?_,.inr ⟨c1,c2⟩⟩
    ·simp only
     rcases qg v hv with q | q
     ·exact .inl q
     ·right;omega
    ·have old:=st δ M hδ
     have lo:=fe δ M.ok M.le
     have lo':=qfe δ M.ok lo
     simp only
     obtain ⟨e',he',g1,g2,g3⟩:=M.tight hmap (fun u=>gd far u) (fun u hu=>le u hu) ⟨v,hv,by have:=lo' v hv;omega⟩ lo
     obtain ⟨q,hq,rfl⟩:=nR.1 he'
     rw [nZ] at qst
     have h5:=qst δ M.ok lo hδ q hq g1 g3
     have:=wQe (n:=n) (δ:=δ) (low:=fun u=>gd far u) (low':=fun u=>gd far' u) lo' (fun u hu=>qle u hu) (hmap _ he').2 g2 h5
     omega) with ⟨⟨far,by_,last⟩,e,I⟩ | ⟨⟨f,last,ok⟩,e,h3,h4,h5⟩
 ·refine ⟨⟨far,by_⟩,last,false,?_,I.bl,I.fl,(fun h=>by cases h),fun _=>?_⟩
  ·show jn (forN _ (n + 1) 0 (y,nA n (-1),-1)) _=_
   erw [e]
   rfl
  ·have hla:=I.la
   simp only at hla
   refine ⟨by omega,by omega,fun δ M hδ=>?_⟩
   have h6:0 + (n + 1) <= wRN n δ fun v=>gd far v:=I.st δ M hδ
   have:=wQd n δ fun v=>gd far v
   omega
 ·simp only at h3 h4 h5
  subst h3
  refine ⟨f,last,true,?_,h4,h5.fl,fun _=>h5,fun h=>by cases h⟩
  show jn (forN _ (n + 1) 0 (y,nA n (-1),-1)) _=_
  erw [e]
  rfl
theorem SpT.fin {n:Nat} {R:Int} {es:List Ed} (C:Con n R es) (hc:∀ e ∈ es,e.c <= 400000) {i:Int} {far:List Int} (S:SpT n es i far) {k:Nat} (hk:k < n) (h0:wJT i k=0):∀ v,v < n->gd far v < 1125899906842624 :=
 C.all (fun v=>v < n->gd far v < 1125899906842624) k hk (fun _=>by have:=S.le k hk;omega) (fun e he h _=>by
  obtain ⟨h1,h2⟩:=C.ends e he
  have a:=h h1
  have b:=S.rl e he a
  have c:=hc e he
  rcases S.rg e.a h1 with q | q <;> omega) |> fun h v hv=>h v hv hv
theorem SpT.feas {n:Nat} {R:Int} {es:List Ed} (C:Con n R es) (hc:∀ e ∈ es,e.c <= 400000) {i:Int} {far:List Int} (S:SpT n es i far) {k:Nat} (hk:k < n) (h0:wJT i k=0):wJh es fun v=>gd far v :=
 fun e he=>S.rl e he (S.fin C hc hk h0 e.a (C.ends e he).1)
theorem SpT.isD {n:Nat} {R:Int} (hR:R <= 1000000000000) {es:List Ed} (C:Con n R es) (hc:∀ e ∈ es,e.c <= 400000) {i:Nat} (hi:i < n) {far:List Int} (S:SpT n es i far):IsD n es i fun v=>gd far v:=by
 have t0:wJT i i=0:=by unfold wJT;rw [if_pos (.inr rfl)]
 have F:=S.feas C hc hi t0
 have gr:∀ x,wJh es x->∀ v,v < n->x v - x i <= gd far v:=fun x hx v hv=>by
  have:=S.fe (fun u=>x u + (-(x i))) (wRm hx _) (fun u hu=>by
   show x u + (-(x i)) <= _
   have:=C.near x hx i u hi hu
   unfold wJT
   split
   ·rename_i h
    rcases h with h | h
    ·omega
    ·have:u=i:=by omega
     subst this;omega
   ·omega) v hv
  have this:x v + (-(x i)) <= gd far v:=this
  omega
 have h1:=gr _ F i hi
 have h2:=S.le i hi
 exact ⟨F,by show gd far i=0;omega,gr⟩
open Go.KL Go.KL.Net
structure RC (r:wAF):Prop where
 n:1 <= r.Starts.length/\r.Starts.length <= 8
 m:r.Splits.length <= 7
 c:r.Clocks.length <= 4
 q:r.Readings.length <= 40
 st:∀ s ∈ r.Starts,0 <= s/\s <= 360000
 sp:∀ s ∈ r.Splits,s.Lo <= s.Hi/\0 <= s.Lo/\s.Hi <= 360000
 ck:∀ s ∈ r.Clocks,(s.Offset.Lo <= s.Offset.Hi/\-36000 <= s.Offset.Lo/\s.Offset.Hi <= 36000)/\0 <= s.Error/\s.Error <= 600
 rt:∀ x ∈ r.Readings,0 <= x.Time/\x.Time <= 360000
 ru:∀ x ∈ r.Readings,0 <= x.Skier/\x.Skier < r.Starts.length/\0 <= x.Mat/\x.Mat <= r.Splits.length/\0 <= x.Clock/\x.Clock < r.Clocks.length
def zp:wAK:=⟨-1,0⟩
def wIz (r:wAF) (p:wAK):Prop:=p=zp \/ (0 <= p.skier/\p.skier < r.Starts.length/\0 <= p.mat/\p.mat <= r.Splits.length) \/ (p.skier=-1/\1 <= p.mat/\p.mat <= r.Clocks.length)
def wFq (r:wAF) (x:wAO):Prop :=
 (x.Kind=0/\0 <= x.Skier/\x.Skier < r.Starts.length/\x.Index=0) \/ (x.Kind=1/\0 <= x.Skier/\x.Skier < r.Starts.length/\0 <= x.Index/\x.Index < r.Splits.length) \/
 (x.Kind=2/\x.Skier=0/\0 <= x.Index/\x.Index < r.Clocks.length) \/ (x.Kind=3/\x.Skier=0/\0 <= x.Index/\x.Index < r.Readings.length)
abbrev Pt:=wAK
def wFZ (r:wAF) (x:wAO):Pt × Pt × Int × Int :=
 if x.Kind=0 then (zp,⟨x.Skier,0⟩,gd r.Starts x.Skier.toNat,-gd r.Starts x.Skier.toNat)
 else if x.Kind=1 then (⟨x.Skier,x.Index⟩,⟨x.Skier,x.Index + 1⟩,(gd r.Splits x.Index.toNat).Hi,-(gd r.Splits x.Index.toNat).Lo)
 else if x.Kind=2 then (zp,⟨-1,1 + x.Index⟩,-(gd r.Clocks x.Index.toNat).Offset.Lo,(gd r.Clocks x.Index.toNat).Offset.Hi)
 else (⟨-1,1 + (gd r.Readings x.Index.toNat).Clock⟩,⟨(gd r.Readings x.Index.toNat).Skier,(gd r.Readings x.Index.toNat).Mat⟩,(gd r.Readings x.Index.toNat).Time + (gd r.Clocks (gd r.Readings x.Index.toNat).Clock.toNat).Error,(gd r.Clocks (gd r.Readings x.Index.toNat).Clock.toNat).Error - (gd r.Readings x.Index.toNat).Time)
def wEp (r:wAF) (x:wAO):Pt × Pt × Int:=if x.Up=true then ((wFZ r x).1,(wFZ r x).2.1,(wFZ r x).2.2.1) else ((wFZ r x).2.1,(wFZ r x).1,(wFZ r x).2.2.2)
theorem wJU {α:Type} [Inhabited α] {l:List α} {i:Int} (h0:0 <= i) (h1:i < l.length):idx l i=some (gd l i.toNat):=by
 obtain ⟨k,rfl⟩:=Int.eq_ofNat_of_zero_le h0
 rw [wDE (by omega)]
 rfl
theorem wEG {α:Type} [Inhabited α] {l:List α} {i:Int} (h0:0 <= i) (h1:i < l.length):gd l i.toNat ∈ l:=wCt (by omega)
theorem wPF {r:wAF} (C:RC r) {x:wAO} (h:wFq r x):wCf r x=some (wEp r x):=by
 unfold wCf wDO wEy wEz wFA wFB wFC wFD wEb wEc wDD wEH
 have hm:=C.m;have hc:=C.c;have hq:=C.q;have hn:=C.n
 rcases h with ⟨k,a,b,c⟩ | ⟨k,a,b,c,d⟩ | ⟨k,a,c,d⟩ | ⟨k,a,c,d⟩
 ·have g:=C.st _ (wEG a b)
  have e4:wFZ r x=(zp,⟨x.Skier,0⟩,gd r.Starts x.Skier.toNat,-gd r.Starts x.Skier.toNat):=if_pos k
  have w:w64 (-gd r.Starts x.Skier.toNat)=-gd r.Starts x.Skier.toNat:=wAX (by omega) (by omega)
  rw [if_pos k,wJU a b]
  simp only [hD]
  rw [w]
  unfold wEp
  rw [e4]
  split <;> rfl
 ·have g:=C.sp _ (wEG c d)
  have e4:wFZ r x=(⟨x.Skier,x.Index⟩,⟨x.Skier,x.Index + 1⟩,(gd r.Splits x.Index.toNat).Hi,-(gd r.Splits x.Index.toNat).Lo):=(if_neg (by omega)).trans (if_pos k)
  have w:w64 (-(gd r.Splits x.Index.toNat).Lo)=-(gd r.Splits x.Index.toNat).Lo:=wAX (by omega) (by omega)
  have w2:w64 (x.Index + 1)=x.Index + 1:=wAX (by omega) (by omega)
  rw [if_neg (by omega),if_pos k,wJU c d]
  simp only [hD]
  rw [w,w2]
  unfold wEp
  rw [e4]
  split <;> rfl
 ·have g:=C.ck _ (wEG c d)
  have e4:wFZ r x=(zp,⟨-1,1 + x.Index⟩,-(gd r.Clocks x.Index.toNat).Offset.Lo,(gd r.Clocks x.Index.toNat).Offset.Hi):=(if_neg (by omega)).trans ((if_neg (by omega)).trans (if_pos k))
  have w:w64 (-(gd r.Clocks x.Index.toNat).Offset.Lo)=-(gd r.Clocks x.Index.toNat).Offset.Lo:=wAX (by omega) (by omega)
  have w2:w64 (1 + x.Index)=1 + x.Index:=wAX (by omega) (by omega)
  rw [if_neg (by omega),if_neg (by omega),if_pos k,wJU c d]
  simp only [hD]
  rw [w,w2]
  unfold wEp
  rw [e4]
  split <;> rfl
 ·have g:=C.rt _ (wEG c d)
  have u:=C.ru _ (wEG c d)
  have gc:=C.ck _ (wEG u.2.2.2.2.1 u.2.2.2.2.2)
  have e4:wFZ r x=(⟨-1,1 + (gd r.Readings x.Index.toNat).Clock⟩,⟨(gd r.Readings x.Index.toNat).Skier,(gd r.Readings x.Index.toNat).Mat⟩,(gd r.Readings x.Index.toNat).Time + (gd r.Clocks (gd r.Readings x.Index.toNat).Clock.toNat).Error,(gd r.Clocks (gd r.Readings x.Index.toNat).Clock.toNat).Error - (gd r.Readings x.Index.toNat).Time):=(if_neg (by omega)).trans ((if_neg (by omega)).trans (if_neg (by omega)))
  rw [if_neg (by omega),if_neg (by omega),if_neg (by omega),if_pos k,wJU c d]
  simp only [hD]
  rw [wJU u.2.2.2.2.1 u.2.2.2.2.2]
  simp only [hD]
  generalize gd r.Readings x.Index.toNat=X at *
  generalize gd r.Clocks X.Clock.toNat=Y at *
  have w:w64 (X.Time + Y.Error)=X.Time + Y.Error:=wAX (by omega) (by omega)
  have w2:w64 (1 + X.Clock)=1 + X.Clock:=wAX (by omega) (by omega)
  have w3:w64 (Y.Error - X.Time)=Y.Error - X.Time:=wAX (by omega) (by omega)
  rw [w,w2,w3]
  unfold wEp
  rw [e4]
  split <;> rfl
theorem wId {r:wAF} (C:RC r) {x:wAO} (h:wFq r x):wIz r (wEp r x).1/\wIz r (wEp r x).2.1/\-400000 <= (wEp r x).2.2/\(wEp r x).2.2 <= 400000:=by
 have key:wIz r (wFZ r x).1/\wIz r (wFZ r x).2.1/\(-400000 <= (wFZ r x).2.2.1/\(wFZ r x).2.2.1 <= 400000)/\(-400000 <= (wFZ r x).2.2.2/\(wFZ r x).2.2.2 <= 400000):=by
  have hn:=C.n
  unfold wFZ
  rcases h with ⟨k,a,b,c⟩ | ⟨k,a,b,c,d⟩ | ⟨k,a,c,d⟩ | ⟨k,a,c,d⟩
  ·have g:=C.st _ (wEG a b)
   rw [if_pos k]
   exact ⟨.inl rfl,.inr (.inl ⟨a,b,by simp only;omega,by simp only;omega⟩),by simp only;omega,by simp only;omega⟩
  ·have g:=C.sp _ (wEG c d)
   rw [if_neg (by omega),if_pos k]
   exact ⟨.inr (.inl ⟨a,b,by simp only;omega,by simp only;omega⟩),.inr (.inl ⟨a,b,by simp only;omega,by simp only;omega⟩),by simp only;omega,by simp only;omega⟩
  ·have g:=C.ck _ (wEG c d)
   rw [if_neg (by omega),if_neg (by omega),if_pos k]
   exact ⟨.inl rfl,.inr (.inr ⟨rfl,by simp only;omega,by simp only;omega⟩),by simp only;omega,by simp only;omega⟩
  ·have g:=C.rt _ (wEG c d)
   have u:=C.ru _ (wEG c d)
   have gc:=C.ck _ (wEG u.2.2.2.2.1 u.2.2.2.2.2)
   rw [if_neg (by omega),if_neg (by omega),if_neg (by omega)]
   exact ⟨.inr (.inr ⟨rfl,by simp only;omega,by simp only;omega⟩),.inr (.inl ⟨u.1,u.2.1,u.2.2.1,u.2.2.2.1⟩),by simp only;omega,by simp only;omega⟩
 obtain ⟨h1,h2,h3,h4⟩:=key
 unfold wEp
 split
 ·exact ⟨h1,h2,h3⟩
 ·exact ⟨h2,h1,h4⟩
def two (kind skier i:Nat):List wAO:=[⟨kind,skier,i,true⟩,⟨kind,skier,i,false⟩]
def wLS (kind skier m:Nat):List wAO:=(nB m).flatMap (two kind skier)
def skL (kind ns m:Nat):List wAO:=(nB ns).flatMap fun s=>wLS kind s m
def wLT (r:wAF):List wAO:=skL 0 r.Starts.length 1 ++ (skL 1 r.Starts.length r.Splits.length ++ (skL 2 1 r.Clocks.length ++ skL 3 1 r.Readings.length))
theorem wQh {kind ns m:Nat} {x:wAO}:x ∈ skL kind ns m ↔ x.Kind=kind/\0 <= x.Skier/\x.Skier < ns/\0 <= x.Index/\x.Index < m:=by
 unfold skL wLS two
 simp only [List.mem_flatMap,nT,ni,nh,or_false]
 constructor
 ·rintro ⟨s,hs,i,hi,rfl | rfl⟩ <;> exact ⟨rfl,by simp only;omega,by simp only;omega,by simp only;omega,by simp only;omega⟩
 ·rintro ⟨a,b,c,d,e⟩
  refine ⟨x.Skier.toNat,by omega,x.Index.toNat,by omega,?_⟩
  obtain ⟨k,s,i,u⟩:=x
  simp only at a b c d e
  subst a
  rw [nN b,nN d]
  cases u <;> simp
theorem wGt {r:wAF} {x:wAO}:x ∈ wLT r ↔ wFq r x:=by
 unfold wLT wFq
 simp only [nJ,wQh]
 omega
theorem wQi (kind ns m:Nat):(skL kind ns m).length=2 * m * ns:=by
 unfold skL wLS
 rw [kO]
 have:∀ s:Nat,((nB m).flatMap (two kind s)).length=2 * m:=fun s=>by
  rw [kO]
  have e:(nB m).map (fun a=>(two kind s a).length)=nA m 2:=by
   apply List.ext_getElem (by simp)
   intro i h1 h2
   simp [two]
  rw [e,kG]
  omega
 have e:(nB ns).map (fun s=>((nB m).flatMap (two kind s)).length)=nA ns (2 * m):=by
  apply List.ext_getElem (by simp)
  intro i h1 h2
  simp [this]
 rw [e,kG,Nat.mul_comm]
theorem wLU {r:wAF} (C:RC r):(wLT r).length <= 216:=by
 unfold wLT
 simp only [nH,wQi]
 have hm:=C.m;have hc:=C.c;have hq:=C.q;have hn:=C.n
 have h1:2 * r.Splits.length * r.Starts.length <= 14 * 8:=nk (by omega) hn.2
 omega
section
variable {S E:Type}
def wKn (f:S->wAO->Option (S ⊕ E)):List wAO->S->Option (S ⊕ E)
 | [],s=>some (.inl s)
 | x :: l,s=>(f s x).bind fun y=>match y with
  | .inl s'=>wKn f l s'
  | .inr e=>some (.inr e)
theorem wMt (f:S->wAO->Option (S ⊕ E)):∀ (l m:List wAO) (s:S),wKn f (l ++ m) s=(wKn f l s).bind fun y=>match y with
  | .inl s'=>wKn f m s'
  | .inr e=>some (.inr e)
 | [],_,_=>rfl
 | x :: l,m,s=>by
  rw [na,wKn,wKn]
  cases f s x with
  | none=>rfl
  | some y=>cases y with
   | inl s'=>exact wMt f l m s'
   | inr e=>rfl
def lif {B:Type} (k:E->B) (x:Option (S ⊕ E)):Option (S ⊕ B):=x.bind fun y=>match y with
 | .inl s=>some (.inl s)
 | .inr e=>some (.inr (k e))
theorem wJA {B:Type} (k:E->B) {body:Nat->S->Option (S ⊕ B)} {f:S->wAO->Option (S ⊕ E)} {L:Nat->List wAO}:∀ (m i:Nat) (s:S),(∀ j s,i <= j->j < i + m->body j s=lif k (wKn f (L j) s))->forN body m i s=lif k (wKn f ((List.range' i m).flatMap L) s)
 | 0,_,_,_=>rfl
 | m + 1,i,s,h=>by
  rw [forN,h i s (nX _) (by omega),List.range'_succ,kW,wMt]
  cases wKn f (L i) s with
  | none=>rfl
  | some y=>cases y with
   | inl s'=>exact wJA k m (i + 1) s' fun j s h1 h2=>h j s (by omega) (by omega)
   | inr e=>rfl
theorem wPv {B:Type} (k:E->B) (x:Option (S ⊕ E)):jn (lif (fun e=>(.inr (k e):S ⊕ B)) x) (fun y=>some (.inl y))=lif k x:=by
 cases x with
 | none=>rfl
 | some y=>cases y <;> rfl
theorem wRo (x:Option (S ⊕ E)):jn (lif (fun e=>(.inr e:S ⊕ E)) x) (fun y=>some (.inl y))=x:=by
 cases x with
 | none=>rfl
 | some y=>cases y <;> rfl
theorem wRp (f:S->wAO->Option (S ⊕ E)) (kind skier i:Nat) (s:S):((f s (⟨(kind:Int),(skier:Int),(i:Int),true⟩:wAO)).bind fun yr141 =>
          match yr141 with
          | .inl s151 =>
            (f s151 (⟨(kind:Int),(skier:Int),(i:Int),false⟩:wAO)).bind fun yr154 =>
            match yr154 with
            | .inl s164 =>
              some (.inl s164)
            | .inr s164 =>
              esc (esc (esc (some (.inr s164))))
          | .inr s151 =>
            esc (esc (esc (some (.inr s151)))))=lif (fun e=>(.inr (.inr (.inr e)):S ⊕ (S ⊕ (S ⊕ E)))) (wKn f (two kind skier i) s):=by
  unfold two
  rw [wKn]
  cases f s (⟨(kind:Int),(skier:Int),(i:Int),true⟩:wAO) with
  | none=>rfl
  | some y=>cases y with
    | inr e=>rfl
    | inl s' =>
      simp only [hD]
      rw [wKn]
      cases f s' (⟨(kind:Int),(skier:Int),(i:Int),false⟩:wAO) with
      | none=>rfl
      | some y=>cases y <;> rfl
theorem wOT (f:S->wAO->Option (S ⊕ E)) (s0:S) {r:wAF} (C:RC r):wCo f s0 r=wKn f (wLT r) s0:=by
  unfold wCo
  have hm:=C.m;have hc:=C.c;have hq:=C.q;have hn:=C.n
  have inner:∀ (kind skier m:Nat) (s:S),m <= 1000->(wFX 0 (m:Int) (fun k113 s111 =>
          (f s111 (⟨(kind:Int),(skier:Int),(↑k113:Int),true⟩:wAO)).bind fun yr141 =>
          match yr141 with
          | .inl s151 =>
            (f s151 (⟨(kind:Int),(skier:Int),(↑k113:Int),false⟩:wAO)).bind fun yr154 =>
            match yr154 with
            | .inl s164 =>
              some (.inl s164)
            | .inr s164 =>
              esc (esc (esc (some (.inr s164))))
          | .inr s151 =>
            esc (esc (esc (some (.inr s151))))) s)=lif (fun e=>(.inr (.inr (.inr e)):S ⊕ (S ⊕ (S ⊕ E)))) (wKn f (wLS kind skier m) s):=fun kind skier m s hm=>by
    rw [wFp (by omega),wJA (fun e=>(.inr (.inr (.inr e)):S ⊕ (S ⊕ (S ⊕ E)))) (f:=f) (L:=two kind skier) m 0 s fun j s _ _=>wRp f kind skier j s,<- kL]
    rfl
  have skier:∀ (kind ns m:Nat) (s:S),ns <= 1000->m <= 1000->(jn (wFX 0 (ns:Int) (fun k78 s76 =>
        jn (wFX 0 (m:Int) (fun k113 s111 =>
          (f s111 (⟨(kind:Int),(↑k78:Int),(↑k113:Int),true⟩:wAO)).bind fun yr141 =>
          match yr141 with
          | .inl s151 =>
            (f s151 (⟨(kind:Int),(↑k78:Int),(↑k113:Int),false⟩:wAO)).bind fun yr154 =>
            match yr154 with
            | .inl s164 =>
              some (.inl s164)
            | .inr s164 =>
              esc (esc (esc (some (.inr s164))))
          | .inr s151 =>
            esc (esc (esc (some (.inr s151))))) s76) fun y195 =>
        some (.inl y195)) s) fun y219 =>
      some (.inl y219))=lif (fun e=>(.inr e:S ⊕ E)) (wKn f (skL kind ns m) s):=fun kind ns m s hns hm=>by
    rw [wFp (by omega),wJA (fun e=>(.inr (.inr e):S ⊕ (S ⊕ E))) (f:=f) (L:=fun q=>wLS kind q m) ns 0 s fun j s _ _=>by rw [inner kind j m s hm,wPv],wPv,<- kL]
    rfl
  unfold wFX
  rw [if_pos (by omega)]
  show jn (forN _ 4 0 s0) _=_
  rw [wJA (fun e=>(.inr e:S ⊕ E)) (f:=f) (L:=fun k=>if k=0 then skL 0 r.Starts.length 1 else if k=1 then skL 1 r.Starts.length r.Splits.length else if k=2 then skL 2 1 r.Clocks.length else skL 3 1 r.Readings.length) 4 0 s0 fun j s _ hj=>?_,wRo]
  · congr 1
    show nY _ [0,1,2,3]=_
    simp only [kW,List.flatMap_nil,List.append_nil]
    rfl
  · have:j=0 \/ j=1 \/ j=2 \/ j=3:=by omega
    rcases this with rfl | rfl | rfl | rfl
    · exact skier 0 r.Starts.length 1 s (by omega) (by omega)
    · exact skier 1 r.Starts.length r.Splits.length s (by omega) (by omega)
    · exact skier 2 1 r.Clocks.length s (by omega) (by omega)
    · exact skier 3 1 r.Readings.length s (by omega) (by omega)
end
open Go.KL Go.KL.Net
def wGY:List Pt->Nat->List (Pt × Int)
 | [],_=>[]
 | p :: l,k=>(p,(k:Int)) :: wGY l (k + 1)
theorem wKd:∀ (l:List Pt) (k:Nat),(wGY l k).length=l.length
 | [],_=>rfl
 | _ :: l,k=>by rw [wGY,nD,nD,wKd l]
theorem wMu:∀ (l:List Pt) (p:Pt) (k:Nat),wGY (l ++ [p]) k=wGY l k ++ [(p,((k + l.length:Nat):Int))]
 | [],p,k=>by simp [wGY]
 | a :: l,p,k=>by
  rw [na,wGY,wGY,wMu l p (k + 1),na,nD]
  congr 4
  omega
theorem wMv:∀ {l:List Pt} {k:Nat} {p:Pt},p ∉ l->wOq (wGY l k) p=none/\∀ v,wHq (wGY l k) p v=wGY l k ++ [(p,v)]
 | [],_,_,_=>⟨rfl,fun _=>rfl⟩
 | a :: l,k,p,h=>by
  rw [ni,not_or] at h
  obtain ⟨h1,h2⟩:=wMv (l:=l) (k:=k + 1) h.2
  refine ⟨by rw [wGY,wOq,if_neg h.1];exact h1,fun v=>?_⟩
  rw [wGY,wHq,if_neg h.1,h2 v];rfl
theorem wOU:∀ {l:List Pt} {k i:Nat},l.Nodup->i < l.length->wOq (wGY l k) (gd l i)=some ((k + i:Nat):Int)
 | a :: l,k,0,_,_=>by
  rw [wGY,wOq]
  exact if_pos rfl
 | a :: l,k,i + 1,nd,hi=>by
  rw [List.nodup_cons] at nd
  have hi':i < l.length:=by simpa using hi
  have e:gd (a :: l) (i + 1)=gd l i:=rfl
  have hne:gd l i ≠ a:=fun h=>nd.1 (h ▸ wCt hi')
  rw [e,wGY,wOq,if_neg hne,wOU nd.2 hi']
  congr 2
  omega
def pos (pts:List Pt) (p:Pt):Nat:=(wBE (wGY pts 0) p 0).toNat
theorem wOV {α:Type} [Inhabited α] {l:List α} {a:α} (h:a ∈ l):∃ i,i < l.length/\gd l i=a:=by
 obtain ⟨i,hi,e⟩:=List.getElem_of_mem h
 exact ⟨i,hi,by rw [wMB hi,e]⟩
theorem wMw {pts:List Pt} (nd:pts.Nodup) {i:Nat} (hi:i < pts.length):pos pts (gd pts i)=i/\wBE (wGY pts 0) (gd pts i) 0=(i:Int)/\wNf (wGY pts 0) (gd pts i)=true:=by
 unfold pos wBE wNf
 rw [wOU nd hi]
 simp
theorem wKJ {pts:List Pt} (nd:pts.Nodup) {p:Pt} (h:p ∈ pts):pos pts p < pts.length/\gd pts (pos pts p)=p/\wBE (wGY pts 0) p 0=(pos pts p:Int)/\wNf (wGY pts 0) p=true:=by
 obtain ⟨i,hi,rfl⟩:=wOV h
 obtain ⟨h1,h2,h3⟩:=wMw nd hi
 rw [h1]
 exact ⟨hi,rfl,h2,h3⟩
def wJi (pts:List Pt) (p:Pt):List Pt:=if p ∈ pts then pts else pts ++ [p]
theorem wMC {pts:List Pt} (nd:pts.Nodup) (p:Pt):(wJi pts p).Nodup:=by
 unfold wJi
 split
 ·exact nd
 ·rename_i h
  rw [ny]
  exact ⟨nd,by simp,fun a ha b hb e=>h (by rw [nP.1 hb] at e;exact e ▸ ha)⟩
theorem wFE {pts:List Pt} {p q:Pt}:q ∈ wJi pts p ↔ q ∈ pts \/ q=p:=by
 unfold wJi
 split
 ·rename_i h
  exact ⟨.inl,fun e=>e.elim id fun e=>e ▸ h⟩
 ·rw [nJ,nP]
theorem wMx (pts:List Pt) (p:Pt):pts.length <= (wJi pts p).length/\(wJi pts p).length <= pts.length + 1:=by
 unfold wJi
 split <;> simp
theorem wMy {pts:List Pt} (nd:pts.Nodup) {p q:Pt} (h:q ∈ pts):wBE (wGY (wJi pts p) 0) q 0=wBE (wGY pts 0) q 0:=by
 unfold wJi
 split
 ·rfl
 ·rename_i hp
  obtain ⟨i,hi,rfl⟩:=wOV h
  have e:gd (pts ++ [p]) i=gd pts i:=wIE hi
  have nd2:=wMC nd p
  unfold wJi at nd2
  rw [if_neg hp] at nd2
  rw [(wMw nd hi).2.1,<- e,(wMw nd2 (by rw [nH];omega)).2.1]
theorem wMz {pts:List Pt} (nd:pts.Nodup) (p:Pt):(if (wNf (wGY pts 0) p)=true then some (wGY pts 0) else some (wHq (wGY pts 0) p (↑((wGY pts 0).length):Int)))=some (wGY (wJi pts p) 0):=by
 by_cases h:p ∈ pts
 ·rw [if_pos (wKJ nd h).2.2.2,wJi,if_pos h]
 ·have ho:=wMv (k:=0) h
  have hn:¬ wNf (wGY pts 0) p=true:=by unfold wNf;rw [ho.1];simp
  rw [if_neg hn,ho.2,wJi,if_neg h,wMu,wKd,nm]
theorem wOW {pts:List Pt} {p:Pt} {i:Nat} (h:i < pts.length):gd (wJi pts p) i=gd pts i:=by
 unfold wJi
 split
 ·rfl
 ·exact wIE h
def mkE (r:wAF) (pts:List Pt) (x:wAO):wAm:=⟨x,wBE (wGY pts 0) (wEp r x).1 0,wBE (wGY pts 0) (wEp r x).2.1 0,(wEp r x).2.2⟩
structure Desk (r:wAF) (d:wAu) (pts:List Pt):Prop where
 c:RC r
 race:d.Race=r
 num:d.number=wGY pts 0
 nd:pts.Nodup
 len:1 <= pts.length/\pts.length <= 433
 zero:gd pts 0=zp
 all:∀ p,p ∈ pts ↔ wIz r p
 edges:d.edges=(wLT r).map (mkE r pts)
structure OpI (r:wAF) (pre:List wAO) (s:List wAm × List (Pt × Int)) (pts:List Pt):Prop where
 num:s.2=wGY pts 0
 nd:pts.Nodup
 len:1 <= pts.length/\pts.length <= 1 + 2 * pre.length
 zero:gd pts 0=zp
 ok:∀ p ∈ pts,wIz r p
 has:∀ x ∈ pre,(wEp r x).1 ∈ pts/\(wEp r x).2.1 ∈ pts
 edges:s.1=pre.map (mkE r pts)
def opF (r:wAF):List wAm × List (Pt × Int)->wAO->Option ((List wAm × List (Pt × Int)) ⊕ Empty):=fun (l1591,l1595) x1616 =>
 (wCf r x1616).bind fun (x1652,x1653,x1654) =>
 (wBf 0 2 (fun k1692 l1689 =>
 (idx ([x1652,x1653]:List wAK) (↑k1692:Int)).bind fun x1718 =>
 if (wNf l1689 x1718)=true then
 some l1689
 else
 some (wHq l1689 x1718 (↑(l1689.length):Int))) l1595).bind fun y1697 =>
 (app 56 l1591 [(⟨x1616,(wBE y1697 x1652 0),(wBE y1697 x1653 0),x1654⟩:wAm)]).bind fun x1773 =>
 some (.inl (x1773,y1697))
theorem wRq {r:wAF} (C:RC r) {pre:List wAO} (hp:pre.length <= 216) {x:wAO} (hx:wFq r x) {s:List wAm × List (Pt × Int)} {pts:List Pt} (I:OpI r pre s pts):∃ s' pts',opF r s x=some (.inl s')/\OpI r (pre ++ [x]) s' pts':=by
 obtain ⟨es,num⟩:=s
 obtain ⟨hn,nd,hl,hz,ok,has,he⟩:=I
 simp only at hn he
 subst hn he
 obtain ⟨o1,o2,_,_⟩:=wId C hx
 unfold opF
 simp only
 rw [wPF C hx,hD]
 have nd1:=wMC nd (wEp r x).1
 have nd2:=wMC nd1 (wEp r x).2.1
 have loop:(wBf 0 2 (fun k1692 l1689 =>
   (idx ([(wEp r x).1,(wEp r x).2.1]:List wAK) (↑k1692:Int)).bind fun x1718 =>
   if (wNf l1689 x1718)=true then
    some l1689
   else
    some (wHq l1689 x1718 (↑(l1689.length):Int))) (wGY pts 0))=some (wGY (wJi (wJi pts (wEp r x).1) (wEp r x).2.1) 0):=by
  unfold wBf
  rw [if_pos (by omega)]
  show forN' _ 2 0 (wGY pts 0)=_
  have i0:idx ([(wEp r x).1,(wEp r x).2.1]:List wAK) ((0:Nat):Int)=some (wEp r x).1:=rfl
  have i1:idx ([(wEp r x).1,(wEp r x).2.1]:List wAK) ((0 + 1:Nat):Int)=some (wEp r x).2.1:=rfl
  simp only [forN',i0,i1,hD]
  rw [wMz nd]
  simp only
  rw [wMz nd1]
 rw [loop,hD,wDZ (by rw [nK];simp only [nD,nI];omega),hD]
 have l1:=wMx pts (wEp r x).1
 have l2:=wMx (wJi pts (wEp r x).1) (wEp r x).2.1
 have same:∀ q ∈ pts,wBE (wGY (wJi (wJi pts (wEp r x).1) (wEp r x).2.1) 0) q 0=wBE (wGY pts 0) q 0:=fun q hq=>by
  rw [wMy nd1 (wFE.2 (.inl hq)),wMy nd hq]
 refine ⟨_,wJi (wJi pts (wEp r x).1) (wEp r x).2.1,rfl,rfl,nd2,⟨by omega,by rw [nH,nO];omega⟩,?_,fun p hp=>?_,fun y hy=>?_,?_⟩
 ·rw [wOW (by omega),wOW (by omega),hz]
 ·rcases wFE.1 hp with hp | rfl
  ·rcases wFE.1 hp with hp | rfl
   ·exact ok p hp
   ·exact o1
  ·exact o2
 ·rcases nJ.1 hy with hy | hy
  ·obtain ⟨a,b⟩:=has y hy
   exact ⟨wFE.2 (.inl (wFE.2 (.inl a))),wFE.2 (.inl (wFE.2 (.inl b)))⟩
  ·have:=nP.1 hy
   subst this
   exact ⟨wFE.2 (.inl (wFE.2 (.inr rfl))),wFE.2 (.inr rfl)⟩
 ·simp only
  rw [nL]
  congr 1
  refine kP fun y hy=>?_
  obtain ⟨a,b⟩:=has y hy
  unfold mkE
  rw [same _ a,same _ b]
theorem skip (r:wAF) (p:Pt) (h:wIz r p) (C:RC r):p=zp \/ ∃ x,wFq r x/\(wEp r x).2.1=p:=by
 rcases h with h | ⟨a,b,c,d⟩ | ⟨a,b,c⟩
 ·exact .inl h
 ·right
  by_cases e:p.mat=0
  ·refine ⟨⟨0,p.skier,0,true⟩,.inl ⟨rfl,a,b,rfl⟩,?_⟩
   show (⟨p.skier,0⟩:Pt)=p
   rw [<- e]
  ·refine ⟨⟨1,p.skier,p.mat - 1,true⟩,.inr (.inl ⟨rfl,a,b,by simp only;omega,by simp only;omega⟩),?_⟩
   show (⟨p.skier,p.mat - 1 + 1⟩:Pt)=p
   rw [nb]
 ·right
  refine ⟨⟨2,0,p.mat - 1,true⟩,.inr (.inr (.inl ⟨rfl,rfl,by simp only;omega,by simp only;omega⟩)),?_⟩
  show (⟨-1,1 + (p.mat - 1)⟩:Pt)=p
  rw [<- a,kC,nb]
theorem wOX {r:wAF} (C:RC r):∃ d pts,wEd r=some d/\Desk r d pts:=by
 unfold wEd wDD wDz
 simp only [hD]
 rw [wOT _ _ C]
 have hlen:=wLU C
 have key:∀ (l pre:List wAO) (s:List wAm × List (Pt × Int)) (pts:List Pt),OpI r pre s pts->pre.length + l.length <= 216->(∀ x ∈ l,wFq r x)->∃ s' pts',wKn (opF r) l s=some (.inl s')/\OpI r (pre ++ l) s' pts':=by
  intro l
  induction l with
  | nil=>intro pre s pts I _ _;exact ⟨s,pts,rfl,by rw [List.append_nil];exact I⟩
  | cons x l ih =>
   intro pre s pts I hl hx
   simp only [nD] at hl
   obtain ⟨s1,p1,e,I1⟩:=wRq C (by omega) (hx x (by simp)) I
   obtain ⟨s2,p2,e2,I2⟩:=ih (pre ++ [x]) s1 p1 I1 (by rw [nH,nO];omega) fun y hy=>hx y (by simp [hy])
   refine ⟨s2,p2,by rw [wKn,e];exact e2,?_⟩
   rw [nV] at I2
   exact I2
 obtain ⟨⟨es,num⟩,pts,e,I⟩:=key (wLT r) [] ([],wHq ([]:List (Pt × Int)) (⟨-1,0⟩:wAK) 0) [zp] ⟨rfl,by simp,⟨by simp,by simp⟩,rfl,fun p hp=>.inl (nP.1 hp),(fun x hx=>by cases hx),rfl⟩ (by simpa using hlen) fun x hx=>wGt.1 hx
 rw [kF] at I
 have hz:zp ∈ pts:=I.zero ▸ wCt I.len.1
 refine ⟨⟨r,num,es⟩,pts,?_,C,rfl,I.num,I.nd,⟨I.len.1,by have:=I.len.2;omega⟩,I.zero,fun p=>⟨I.ok p,fun h=>?_⟩,I.edges⟩
 ·show (wKn (opF r) (wLT r) _).bind _=_
  rw [e]
  rfl
 ·rcases skip r p h C with rfl | ⟨x,hx,rfl⟩
  ·exact hz
  ·exact (I.has x (wGt.2 hx)).2
open Go.KL Go.KL.Net
def wFa (r:wAF) (y:Pt->Int):Prop:=∀ x,wFq r x->y (wEp r x).2.1 <= y (wEp r x).1 + (wEp r x).2.2
section
variable {r:wAF} {y:Pt->Int}
theorem fp0 (F:wFa r y) {s:Int} (h0:0 <= s) (h1:s < r.Starts.length):y ⟨s,0⟩=y zp + gd r.Starts s.toNat:=by
 have a:y ⟨s,0⟩ <= y zp + gd r.Starts s.toNat:=F ⟨0,s,0,true⟩ (.inl ⟨rfl,h0,h1,rfl⟩)
 have b:y zp <= y ⟨s,0⟩ + -gd r.Starts s.toNat:=F ⟨0,s,0,false⟩ (.inl ⟨rfl,h0,h1,rfl⟩)
 omega
theorem fp1 (F:wFa r y) {s k:Int} (h0:0 <= s) (h1:s < r.Starts.length) (k0:0 <= k) (k1:k < r.Splits.length):y ⟨s,k⟩ + (gd r.Splits k.toNat).Lo <= y ⟨s,k + 1⟩/\y ⟨s,k + 1⟩ <= y ⟨s,k⟩ + (gd r.Splits k.toNat).Hi:=by
 have a:y ⟨s,k + 1⟩ <= y ⟨s,k⟩ + (gd r.Splits k.toNat).Hi:=F ⟨1,s,k,true⟩ (.inr (.inl ⟨rfl,h0,h1,k0,k1⟩))
 have b:y ⟨s,k⟩ <= y ⟨s,k + 1⟩ + -(gd r.Splits k.toNat).Lo:=F ⟨1,s,k,false⟩ (.inr (.inl ⟨rfl,h0,h1,k0,k1⟩))
 omega
theorem fp2 (F:wFa r y) {k:Int} (k0:0 <= k) (k1:k < r.Clocks.length):y ⟨-1,1 + k⟩ <= y zp - (gd r.Clocks k.toNat).Offset.Lo/\y zp <= y ⟨-1,1 + k⟩ + (gd r.Clocks k.toNat).Offset.Hi:=by
 have a:y ⟨-1,1 + k⟩ <= y zp + -(gd r.Clocks k.toNat).Offset.Lo:=F ⟨2,0,k,true⟩ (.inr (.inr (.inl ⟨rfl,rfl,k0,k1⟩)))
 have b:y zp <= y ⟨-1,1 + k⟩ + (gd r.Clocks k.toNat).Offset.Hi:=F ⟨2,0,k,false⟩ (.inr (.inr (.inl ⟨rfl,rfl,k0,k1⟩)))
 omega
theorem wNT (C:RC r) (F:wFa r y) {p:Pt} (hp:wIz r p):-3300000 <= y p - y zp/\y p - y zp <= 3300000:=by
 rcases hp with rfl | ⟨a,b,c,d⟩ | ⟨a,b,c⟩
 ·omega
 ·have key:∀ k:Nat,(k:Int) <= r.Splits.length->0 <= y ⟨p.skier,k⟩ - y zp/\y ⟨p.skier,k⟩ - y zp <= 360000 * ((k:Int) + 1):=by
   intro k
   induction k with
   | zero =>
    intro _
    have:=fp0 F a b
    have:=C.st _ (wEG a b)
    show 0 <= y ⟨p.skier,0⟩ - y zp/\y ⟨p.skier,0⟩ - y zp <= _
    omega
   | succ k ih =>
    intro hk
    have h:=ih (by omega)
    have f:=fp1 F a b (k:=(k:Int)) (by omega) (by omega)
    have g:=C.sp _ (wEG (l:=r.Splits) (i:=(k:Int)) (by omega) (by omega))
    have e:((k + 1:Nat):Int)=(k:Int) + 1:=by omega
    rw [e]
    omega
  have:=key p.mat.toNat (by omega)
  rw [nN c] at this
  have hm:=C.m
  have e:(⟨p.skier,p.mat⟩:Pt)=p:=rfl
  rw [e] at this
  omega
 ·have f:=fp2 F (k:=p.mat - 1) (by omega) (by omega)
  have g:=(C.ck _ (wEG (l:=r.Clocks) (i:=p.mat - 1) (by omega) (by omega))).1
  have e:(⟨-1,1 + (p.mat - 1)⟩:Pt)=p:=by rw [<- a,kC,nb]
  rw [e] at f
  omega
theorem to_zp {S:Pt->Prop} (hS:∀ x,wFq r x->S (wEp r x).1->S (wEp r x).2.1) {p:Pt} (hp:wIz r p) (h:S p):S zp:=by
 rcases hp with rfl | ⟨a,b,c,d⟩ | ⟨a,b,c⟩
 ·exact h
 ·have key:∀ k:Nat,(k:Int) <= r.Splits.length->S ⟨p.skier,k⟩->S zp:=by
   intro k
   induction k with
   | zero=>intro _ hk;exact hS ⟨0,p.skier,0,false⟩ (.inl ⟨rfl,a,b,rfl⟩) hk
   | succ k ih =>
    intro hk h
    refine ih (by omega) ?_
    have e:((k + 1:Nat):Int)=(k:Int) + 1:=by omega
    rw [e] at h
    exact hS ⟨1,p.skier,k,false⟩ (.inr (.inl ⟨rfl,a,b,by simp only;omega,by simp only;omega⟩)) h
  refine key p.mat.toNat (by omega) ?_
  rw [nN c];exact h
 ·have e:(⟨-1,1 + (p.mat - 1)⟩:Pt)=p:=by rw [<- a,kC,nb]
  refine hS ⟨2,0,p.mat - 1,false⟩ (.inr (.inr (.inl ⟨rfl,rfl,by simp only;omega,by simp only;omega⟩))) ?_
  show S ⟨-1,1 + (p.mat - 1)⟩
  rw [e];exact h
theorem of_zp {S:Pt->Prop} (hS:∀ x,wFq r x->S (wEp r x).1->S (wEp r x).2.1) (h:S zp) {p:Pt} (hp:wIz r p):S p:=by
 rcases hp with rfl | ⟨a,b,c,d⟩ | ⟨a,b,c⟩
 ·exact h
 ·have key:∀ k:Nat,(k:Int) <= r.Splits.length->S ⟨p.skier,k⟩:=by
   intro k
   induction k with
   | zero=>intro _;exact hS ⟨0,p.skier,0,true⟩ (.inl ⟨rfl,a,b,rfl⟩) h
   | succ k ih =>
    intro hk
    have e:((k + 1:Nat):Int)=(k:Int) + 1:=by omega
    rw [e]
    exact hS ⟨1,p.skier,k,true⟩ (.inr (.inl ⟨rfl,a,b,by simp only;omega,by simp only;omega⟩)) (ih (by omega))
  have:=key p.mat.toNat (by omega)
  rw [nN c] at this
  exact this
 ·have e:(⟨-1,1 + (p.mat - 1)⟩:Pt)=p:=by rw [<- a,kC,nb]
  have:=hS ⟨2,0,p.mat - 1,true⟩ (.inr (.inr (.inl ⟨rfl,rfl,by simp only;omega,by simp only;omega⟩))) h
  rw [<- e];exact this
def turn (x:wAO):wAO:=⟨x.Kind,x.Skier,x.Index,!x.Up⟩
theorem wQj {x:wAO} (h:wFq r x):wFq r (turn x)/\(wEp r (turn x)).1=(wEp r x).2.1/\(wEp r (turn x)).2.1=(wEp r x).1:=by
 refine ⟨h,?_⟩
 obtain ⟨k,s,i,u⟩:=x
 unfold wEp turn
 cases u <;> exact ⟨rfl,rfl⟩
structure IsDP (r:wAF) (a:Pt) (f:Pt->Int):Prop where
 ok:wFa r f
 zero:f a=0
 gr:∀ y,wFa r y->∀ p,wIz r p->y p - y a <= f p
theorem IsDP.one {a:Pt} {f g:Pt->Int} (F:IsDP r a f) (G:IsDP r a g) {p:Pt} (hp:wIz r p):f p=g p:=by
 have h1:=F.gr g G.ok p hp
 have h2:=G.gr f F.ok p hp
 have:=F.zero;have:=G.zero
 omega
theorem IsDP.near {a:Pt} {f:Pt->Int} (C:RC r) (F:IsDP r a f) (ha:wIz r a) {p:Pt} (hp:wIz r p):-6600000 <= f p/\f p <= 6600000:=by
 have h1:=wNT C F.ok ha
 have h2:=wNT C F.ok hp
 have:=F.zero
 omega
end
section
variable {r:wAF} {d:wAu} {pts:List Pt} (D:Desk r d pts)
include D
theorem Desk.pos_ok {p:Pt} (hp:wIz r p):pos pts p < pts.length/\gd pts (pos pts p)=p/\wBE d.number p 0=(pos pts p:Int):=by
 obtain ⟨h1,h2,h3,_⟩:=wKJ D.nd ((D.all p).2 hp)
 exact ⟨h1,h2,by rw [D.num];exact h3⟩
theorem Desk.gd_ok {v:Nat} (hv:v < pts.length):wIz r (gd pts v)/\pos pts (gd pts v)=v:=⟨(D.all _).1 (wCt hv),(wMw D.nd hv).1⟩
theorem Desk.ed_is {x:wAO} (h:wFq r x) (p:Bool):ed p (mkE r pts x)=if p then ⟨pos pts (wEp r x).2.1,pos pts (wEp r x).1,(wEp r x).2.2⟩ else ⟨pos pts (wEp r x).1,pos pts (wEp r x).2.1,(wEp r x).2.2⟩:=by
 obtain ⟨o1,o2,_,_⟩:=wId D.c h
 have h1:=(wKJ D.nd ((D.all _).2 o1)).2.2.1
 have h2:=(wKJ D.nd ((D.all _).2 o2)).2.2.1
 unfold ed mkE
 simp only [h1,h2,nQ]
theorem Desk.mem {p:Bool} {e:Ed}:e ∈ d.edges.map (ed p) ↔ ∃ x,wFq r x/\e=ed p (mkE r pts x):=by
 rw [D.edges,List.map_map]
 constructor
 ·intro h
  obtain ⟨x,hx,rfl⟩:=nR.1 h
  exact ⟨x,wGt.1 hx,rfl⟩
 ·rintro ⟨x,hx,rfl⟩
  exact nR.2 ⟨x,wGt.2 hx,rfl⟩
theorem Desk.edOK:∀ e ∈ d.edges,EdOK pts.length e:=by
 intro e he
 rw [D.edges] at he
 obtain ⟨x,hx,rfl⟩:=nR.1 he
 have h:=wGt.1 hx
 obtain ⟨o1,o2,c1,c2⟩:=wId D.c h
 obtain ⟨h1,_,h2,_⟩:=wKJ D.nd ((D.all _).2 o1)
 obtain ⟨g1,_,g2,_⟩:=wKJ D.nd ((D.all _).2 o2)
 unfold mkE
 rw [h2,g2]
 exact ⟨by simp only;omega,by simp only;omega,by simp only;omega,by simp only;omega,c1,c2⟩
theorem Desk.elen:d.edges.length <= 1000:=by
 have:=wLU D.c
 rw [D.edges,nK]
 omega
theorem Desk.feas {y:Pt->Int} (F:wFa r y):wJh (d.edges.map (ed false)) fun v=>y (gd pts v):=by
 intro e he
 obtain ⟨x,hx,rfl⟩:=D.mem.1 he
 obtain ⟨o1,o2,_,_⟩:=wId D.c hx
 rw [D.ed_is hx]
 simp only [nW,if_false]
 rw [(D.pos_ok o1).2.1,(D.pos_ok o2).2.1]
 exact F x hx
theorem Desk.back {z:Nat->Int} (F:wJh (d.edges.map (ed false)) z):wFa r fun p=>z (pos pts p):=by
 intro x hx
 have:=F _ (D.mem.2 ⟨x,hx,rfl⟩)
 rw [D.ed_is hx] at this
 simp only [nW,if_false] at this
 exact this
theorem Desk.backT {z:Nat->Int} (F:wJh (d.edges.map (ed true)) z):wFa r fun p=>-z (pos pts p):=by
 intro x hx
 have:=F _ (D.mem.2 ⟨x,hx,rfl⟩)
 rw [D.ed_is hx] at this
 simp only [if_true] at this
 simp only
 omega
theorem Desk.con (p:Bool):Con pts.length 6600000 (d.edges.map (ed p)):=by
 refine ⟨fun e he=>?_,fun z hz a b ha hb=>?_,fun S i hi hSi hS v hv=>?_⟩
 ·obtain ⟨x,hx,rfl⟩:=D.mem.1 he
  obtain ⟨o1,o2,_,_⟩:=wId D.c hx
  have h1:=(D.pos_ok o1).1
  have h2:=(D.pos_ok o2).1
  rw [D.ed_is hx]
  split
  ·exact ⟨h2,h1⟩
  ·exact ⟨h1,h2⟩
 ·obtain ⟨pa,ea⟩:=D.gd_ok ha
  obtain ⟨pb,eb⟩:=D.gd_ok hb
  cases p with
  | false =>
   have h1:=wNT D.c (D.back hz) pa
   have h2:=wNT D.c (D.back hz) pb
   simp only [ea,eb] at h1 h2
   omega
  | true =>
   have h1:=wNT D.c (D.backT hz) pa
   have h2:=wNT D.c (D.backT hz) pb
   simp only [ea,eb] at h1 h2
   omega
 ·have hcl:∀ x,wFq r x->S (pos pts (wEp r x).1)->S (pos pts (wEp r x).2.1):=fun x hx h=>by
   cases p with
   | false =>
    have:=hS _ (D.mem.2 ⟨x,hx,rfl⟩)
    rw [D.ed_is hx] at this
    simp only [nW,if_false] at this
    exact this h
   | true =>
    obtain ⟨t1,t2,t3⟩:=wQj hx
    have:=hS _ (D.mem.2 ⟨_,t1,rfl⟩)
    rw [D.ed_is t1] at this
    simp only [if_true] at this
    rw [t2,t3] at this
    exact this h
  obtain ⟨pi,ei⟩:=D.gd_ok hi
  obtain ⟨pv,ev⟩:=D.gd_ok hv
  have:=of_zp (S:=fun q=>S (pos pts q)) hcl (to_zp (S:=fun q=>S (pos pts q)) hcl pi (by show S (pos pts (gd pts i));rw [ei];exact hSi)) pv
  have this:S (pos pts (gd pts v)):=this
  rwa [ev] at this
theorem Desk.cost (p:Bool):∀ e ∈ d.edges.map (ed p),e.c <= 400000:=by
 intro e he
 obtain ⟨x,hx,rfl⟩:=D.mem.1 he
 obtain ⟨_,_,_,c⟩:=wId D.c hx
 rw [D.ed_is hx]
 split <;> exact c
theorem Desk.nlen:d.number.length=pts.length:=by rw [D.num,wKd]
theorem Desk.any:∃ f last ok,wAw d (-1) false=some (f,last,ok)/\f.far.length=pts.length/\f.by_.length=pts.length/\(ok=true ↔ ∃ y,wFa r y)/\(ok=true->wFa r fun p=>gd f.far (pos pts p))/\(ok=false->0 <= last/\last < pts.length):=by
 obtain ⟨f,last,ok,e,bl,fl,h1,h2⟩:=wLR D.nlen D.len.1 (by have:=D.len.2;omega) D.edOK D.elen (-1) false
 have hp:0 < pts.length:=D.len.1
 have t0:wJT (-1) 0=0:=by unfold wJT;rw [if_pos (.inl (by omega))]
 have feas:ok=true->wFa r fun p=>gd f.far (pos pts p):=fun h=>D.back ((h1 h).feas (D.con false) (D.cost false) hp t0)
 refine ⟨f,last,ok,e,fl,bl,⟨fun h=>⟨_,feas h⟩,fun ⟨y,hy⟩=>?_⟩,feas,fun h=>⟨(h2 h).1,(h2 h).2.1⟩⟩
 cases ok with
 | true=>rfl
 | false =>
  exfalso
  obtain ⟨δ,M⟩:=wOQ (D.con false) (D.feas hy) hp t0 (fun v _=>(wPu (-1) v).1)
  exact (h2 rfl).2.2 δ M fun v hv=>by have:=M.hi (D.con false) hp t0 v hv;omega
theorem Desk.from_ (hy:∃ y,wFa r y) {a:Pt} (ha:wIz r a):∃ f last,wAw d (pos pts a:Int) false=some (f,last,true)/\f.far.length=pts.length/\IsDP r a fun p=>gd f.far (pos pts p):=by
 obtain ⟨f,last,ok,e,bl,fl,h1,h2⟩:=wLR D.nlen D.len.1 (by have:=D.len.2;omega) D.edOK D.elen (pos pts a:Int) false
 obtain ⟨hp,hg,_⟩:=D.pos_ok ha
 have t0:wJT (pos pts a:Int) (pos pts a)=0:=by unfold wJT;rw [if_pos (.inr rfl)]
 obtain ⟨y,hy⟩:=hy
 have hok:ok=true:=by
  cases ok with
  | true=>rfl
  | false =>
   exfalso
   obtain ⟨δ,M⟩:=wOQ (D.con false) (D.feas hy) hp t0 (fun v _=>(wPu _ v).1)
   exact (h2 rfl).2.2 δ M fun v hv=>by have:=M.hi (D.con false) hp t0 v hv;omega
 subst hok
 have I:=(h1 rfl).isD (by omega) (D.con false) (D.cost false) hp
 refine ⟨f,last,e,fl,D.back I.ok,I.zero,fun z hz p hpt=>?_⟩
 have:=I.gr _ (D.feas hz) (pos pts p) (D.pos_ok hpt).1
 simp only [hg,(D.pos_ok hpt).2.1] at this
 exact this
end
open Go.KL Go.KL.Net
def wIF (n lo hi:Int):Bool:=decide (lo <= n/\n <= hi)
theorem wJV (n lo hi:Int):wDs n lo hi=some (wIF n lo hi):=by
 unfold wDs wIF
 by_cases h:lo <= n
 ·rw [if_pos h];simp [h]
 ·rw [if_neg h];simp [h]
def wPG (s:wAD) (lo hi:Int):Bool:=decide (s.Lo <= s.Hi/\lo <= s.Lo/\s.Hi <= hi)
theorem wKK (s:wAD) (lo hi:Int):wDb s lo hi=some (wPG s lo hi):=by
 unfold wDb wPG
 by_cases h:s.Lo <= s.Hi
 ·by_cases h2:lo <= s.Lo
  ·rw [if_pos h,if_pos h2];simp [h,h2]
  ·rw [if_pos h,if_neg h2];simp [h2]
 ·rw [if_neg h];simp [h]
theorem wOY {l:List Int} {f:Int->Option Bool} {p:Int->Bool} (hf:∀ a ∈ l,f a=some (p a)) (hn:l.length <= 1000):wDK l f=some (l.all p):=by
 unfold wDK
 refine (wID (R:=Bool) (p:=p) (z:=false) (K:=fun _=>some true) (fun a ha=>?_) (by omega)).trans ?_
 ·rw [hf a ha,hD];split <;> rfl
 ·split <;> simp_all
theorem wNU {l:List wAD} {f:wAD->Option Bool} {p:wAD->Bool} (hf:∀ a ∈ l,f a=some (p a)) (hn:l.length <= 1000):wCC l f=some (l.all p):=by
 unfold wCC
 refine (wID (R:=Bool) (p:=p) (z:=false) (K:=fun _=>some true) (fun a ha=>?_) (by omega)).trans ?_
 ·rw [hf a ha,hD];split <;> rfl
 ·split <;> simp_all
theorem wMD {l:List wAR} {f:wAR->Option Bool} {p:wAR->Bool} (hf:∀ a ∈ l,f a=some (p a)) (hn:l.length <= 1000):wBi l f=some (l.all p):=by
 unfold wBi
 refine (wID (R:=Bool) (p:=p) (z:=false) (K:=fun _=>some true) (fun a ha=>?_) (by omega)).trans ?_
 ·rw [hf a ha,hD];split <;> rfl
 ·split <;> simp_all
theorem wIG {l:List wAP} {f:wAP->Option Bool} {p:wAP->Bool} (hf:∀ a ∈ l,f a=some (p a)) (hn:l.length <= 1000):wBA l f=some (l.all p):=by
 unfold wBA
 refine (wID (R:=Bool) (p:=p) (z:=false) (K:=fun _=>some true) (fun a ha=>?_) (by omega)).trans ?_
 ·rw [hf a ha,hD];split <;> rfl
 ·split <;> simp_all
structure wIH (r:wAF):Prop where
 n:r.Starts.length <= 10
 m:r.Splits.length <= 9
 c:r.Clocks.length <= 6
 q:r.Readings.length <= 44
def stP (s:Int):Bool:=wIF s 0 360000
def spP (s:wAD):Bool:=wPG s 0 360000
def ckP (c:wAR):Bool:=wPG c.Offset (-36000) 36000 && wIF c.Error 0 600
def rtP (x:wAP):Bool:=wIF x.Time 0 360000
def ruP (r:wAF) (x:wAP):Bool:=wIF x.Skier 0 ((r.Starts.length:Int) - 1) && (wIF x.Mat 0 r.Splits.length && wIF x.Clock 0 ((r.Clocks.length:Int) - 1))
def wME (r:wAF):Int :=
 if ¬ (1 <= r.Starts.length/\r.Starts.length <= 8) then 2 else if 7 < r.Splits.length then 2 else if 4 < r.Clocks.length then 2 else if 40 < r.Readings.length then 2
 else if r.Starts.all stP=true then (if r.Splits.all spP=true then (if r.Clocks.all ckP=true then (if r.Readings.all rtP=true then (if r.Readings.all (ruP r)=true then 0 else 1) else 3) else 3) else 3) else 3
theorem wOZ {r:wAF} (h:wME r=0):RC r:=by
 unfold wME at h
 split at h
 ·omega
 ·split at h
  ·omega
  ·split at h
   ·omega
   ·split at h
    ·omega
    ·split at h
     ·split at h
      ·split at h
       ·split at h
        ·split at h
         ·rename_i a1 a2 a3 a4 h1 h2 h3 h4 h5
          rw [nS] at h1 h2 h3 h4 h5
          refine ⟨by omega,by omega,by omega,by omega,fun s hs=>?_,fun s hs=>?_,fun s hs=>?_,fun s hs=>?_,fun s hs=>?_⟩
          ·have:=h1 s hs
           simp only [stP,wIF,decide_eq_true_eq] at this
           exact this
          ·have:=h2 s hs
           simp only [spP,wPG,decide_eq_true_eq] at this
           exact this
          ·have:=h3 s hs
           simp only [ckP,wPG,wIF,nU,decide_eq_true_eq] at this
           exact this
          ·have:=h4 s hs
           simp only [rtP,wIF,decide_eq_true_eq] at this
           exact this
          ·have:=h5 s hs
           simp only [ruP,wIF,nU,decide_eq_true_eq] at this
           omega
         ·omega
        ·omega
       ·omega
      ·omega
     ·omega
theorem wOa {r:wAF} (S:wIH r) (s:wAa):wBF r s=some (wIF s.Skier 0 ((r.Starts.length:Int) - 1) && wIF s.Mat 0 r.Splits.length):=by
 have:=S.n
 unfold wBF
 rw [wAX (by omega) (by omega),wJV,hD,wJV,hD]
 cases wIF s.Skier 0 ((r.Starts.length:Int) - 1)
 ·rw [if_neg (by simp)];rfl
 ·rw [if_pos rfl,Bool.true_and]
theorem wNV {r:wAF} (S:wIH r):wFJ r=some (wME r):=by
 have hn:=S.n;have hm:=S.m;have hc:=S.c;have hq:=S.q
 unfold wFJ wME
 rw [wJV,hD]
 by_cases c1:1 <= r.Starts.length/\r.Starts.length <= 8
 ·have e1:wIF (r.Starts.length:Int) 1 8=true:=by unfold wIF;rw [decide_eq_true_eq];omega
  rw [e1,if_pos rfl,if_neg (show ¬ ¬ (1 <= r.Starts.length/\r.Starts.length <= 8) from fun h=>h c1)]
  by_cases c2:7 < r.Splits.length
  ·rw [if_pos (show (7:Int) < (r.Splits.length:Int) by omega),if_pos c2]
  ·rw [if_neg (show ¬ (7:Int) < (r.Splits.length:Int) by omega),if_neg c2]
   by_cases c3:4 < r.Clocks.length
   ·rw [if_pos (show (4:Int) < (r.Clocks.length:Int) by omega),if_pos c3]
   ·rw [if_neg (show ¬ (4:Int) < (r.Clocks.length:Int) by omega),if_neg c3]
    by_cases c4:40 < r.Readings.length
    ·rw [if_pos (show (40:Int) < (r.Readings.length:Int) by omega),if_pos c4]
    ·rw [if_neg (show ¬ (40:Int) < (r.Readings.length:Int) by omega),if_neg c4]
     rw [wOY (p:=stP) (fun a _=>by unfold wDa;rw [wJV];rfl) (by omega),hD]
     rw [wNU (p:=spP) (fun a _=>by unfold wDc;rw [wKK];rfl) (by omega),hD]
     rw [wMD (p:=ckP) (fun a _=>by
      unfold wDd ckP
      rw [wKK,hD,wJV,hD]
      cases wPG a.Offset (-36000) 36000
      ·rw [if_neg (by simp)];rfl
      ·rw [if_pos rfl];rfl) (by omega),hD]
     rw [wIG (p:=rtP) (fun a _=>by unfold wDe;rw [wJV];rfl) (by omega),hD]
     rw [wIG (p:=ruP r) (fun a _=>by
      unfold wDf ruP
      rw [wOa S,hD,wAX (by omega) (by omega),wJV,hD]
      simp only
      cases wIF a.Skier 0 ((r.Starts.length:Int) - 1)
      ·rw [if_neg (by simp)];rfl
      ·cases wIF a.Mat 0 (r.Splits.length:Int)
       ·rw [if_neg (by simp)];rfl
       ·simp) (by omega),hD]
     split
     ·split
      ·split
       ·split
        ·split <;> rfl
        ·rfl
       ·rfl
      ·rfl
     ·rfl
 ·have e1:wIF (r.Starts.length:Int) 1 8=false:=by unfold wIF;rw [decide_eq_false_iff_not];omega
  rw [e1,if_neg (by simp),if_pos c1]
open Go.KL Go.KL.Net
open Classical
def wMF (r:wAF) (s:wAa):Bool:=wIF s.Skier 0 ((r.Starts.length:Int) - 1) && wIF s.Mat 0 r.Splits.length
def pt (s:wAa):Pt:=⟨s.Skier,s.Mat⟩
theorem wOb {r:wAF} {s:wAa} (h:wMF r s=true):wIz r (pt s)/\0 <= s.Skier/\s.Skier < r.Starts.length/\0 <= s.Mat/\s.Mat <= r.Splits.length:=by
 simp only [wMF,wIF,nU,decide_eq_true_eq] at h
 exact ⟨.inr (.inl ⟨h.1.1,by simp only [pt];omega,h.2.1,h.2.2⟩),h.1.1,by omega,h.2.1,h.2.2⟩
noncomputable def wIu (r:wAF) (l:List wAa):Int:=if wME r=0 then (if l.all (wMF r)=true then (if ∃ y,wFa r y then 0 else 7) else 1) else wME r
theorem err0 {r:wAF} {l:List wAa} (h:wIu r l=0):RC r/\wME r=0/\l.all (wMF r)=true/\∃ y,wFa r y:=by
 unfold wIu at h
 split at h
 ·split at h
  ·split at h
   ·rename_i a b c
    exact ⟨wOZ a,a,b,c⟩
   ·omega
  ·omega
 ·contradiction
theorem wNA {r:wAF} (S:wIH r):(wME r ≠ 0/\wEU r=some (none,wME r)) \/ (wME r=0/\∃ d pts,wEU r=some (some d,0)/\Desk r d pts):=by
 unfold wEU
 rw [wNV S,hD]
 by_cases c:wME r=0
 ·right
  obtain ⟨d,pts,e,D⟩:=wOX (wOZ c)
  refine ⟨c,d,pts,?_,D⟩
  rw [if_pos c,e];rfl
 ·left
  exact ⟨c,if_neg c⟩
open Go.KL Go.KL.Net
open Classical
theorem wNW {l:List wAa} {f:wAa->Option Bool} {p:wAa->Bool} (hf:∀ a ∈ l,f a=some (p a)) (hn:l.length <= 1000):wBR l f=some (l.all p):=by
 unfold wBR
 refine (wID (R:=Bool) (p:=p) (z:=false) (K:=fun _=>some true) (fun a ha=>?_) (by omega)).trans ?_
 ·rw [hf a ha,hD];split <;> rfl
 ·split <;> simp_all
section
variable {r:wAF} {d:wAu} {pts:List Pt} (D:Desk r d pts)
include D
theorem Desk.holds:∃ b,wDL d=some b/\(b=true ↔ ∃ y,wFa r y):=by
 obtain ⟨f,last,ok,e,_,_,h,_⟩:=D.any
 refine ⟨ok,?_,h⟩
 unfold wDL
 rw [e];rfl
end
theorem wNB {r:wAF} (S:wIH r) {l:List wAa} (hl:l.length <= 10):∃ o,wEV r l=some (o,wIu r l)/\(wIu r l=0->∃ d pts,o=some d/\Desk r d pts)/\(wIu r l ≠ 0->o=none):=by
 unfold wEV
 rcases wNA S with ⟨c,e⟩ | ⟨c,d,pts,e,D⟩
 ·have ee:wIu r l=wME r:=by unfold wIu;rw [if_neg c]
  refine ⟨none,?_,fun h=>absurd (ee ▸ h) c,fun _=>rfl⟩
  rw [e,hD,ee]
  simp only
  rw [if_neg c]
 ·rw [e,hD]
  simp only
  rw [if_pos trivial,wNW (p:=wMF r) (fun s _=>wOa S s) (by omega),hD]
  by_cases c2:l.all (wMF r)=true
  ·rw [if_pos c2]
   obtain ⟨b,e3,h3⟩:=D.holds
   rw [e3,hD]
   by_cases c3:∃ y,wFa r y
   ·have ee:wIu r l=0:=by unfold wIu;rw [if_pos c,if_pos c2,if_pos c3]
    rw [if_pos (h3.2 c3),ee]
    exact ⟨_,rfl,fun _=>⟨d,pts,rfl,D⟩,fun h=>absurd rfl h⟩
   ·have ee:wIu r l=7:=by unfold wIu;rw [if_pos c,if_pos c2,if_neg c3]
    rw [if_neg (fun h=>c3 (h3.1 h)),ee]
    exact ⟨_,rfl,fun h=>by omega,fun _=>rfl⟩
  ·have ee:wIu r l=1:=by unfold wIu;rw [if_pos c,if_neg c2]
   rw [if_neg c2,ee]
   exact ⟨_,rfl,fun h=>by omega,fun _=>rfl⟩
open Go.KL Go.KL.Net
open Classical
theorem wHB {S:Type} {body:Nat->S->Option S} {n:Nat} {s0:S} (I:Nat->S->Prop) (hn:n <= 1000) (h0:I 0 s0) (h:∀ i s,i < n->I i s->∃ s',body i s=some s'/\I (i + 1) s'):∃ s,wBf 0 (n:Int) body s0=some s/\I n s:=by
 rw [wEv (by omega)]
 have:=wGM (body:=body) I n 0 s0 h0 fun i s _ h2 h3=>h i s (by omega) h3
 rwa [nm] at this
theorem wRr (a:Arr Int 64) {i j:Nat} (hi:i < 64) (v:Int):(a.set i v).get j=if j=i then v else a.get j:=by
 unfold Arr.set Arr.get
 simp only [nq]
 by_cases e:j=i
 ·rw [if_pos e,e,List.getElem?_set_self (by rw [a.h];exact hi)]
  rfl
 ·rw [if_neg e,List.getElem?_set_ne (Ne.symm e)]
def ahK (G:Nat->Nat->Int) (i k:Nat):List Int:=((nB k).filter fun j=>decide (G i j < 0)).map fun (j:Nat)=>(j:Int)
def beK (G:Nat->Nat->Int) (i k:Nat):Nat:=(nB k).countP fun j=>decide (0 < G j i)
theorem wNC (G:Nat->Nat->Int) (i k:Nat):ahK G i (k + 1)=if G i k < 0 then ahK G i k ++ [(k:Int)] else ahK G i k:=by
 unfold ahK
 rw [nf,kT,nL]
 by_cases c:G i k < 0
 ·rw [if_pos c];simp [c]
 ·rw [if_neg c];simp [c]
theorem wND (G:Nat->Nat->Int) (i k:Nat):beK G i (k + 1)=if 0 < G k i then beK G i k + 1 else beK G i k:=by
 unfold beK
 rw [nf,kU]
 by_cases c:0 < G k i
 ·rw [if_pos c];simp [c]
 ·rw [if_neg c];simp [c]
theorem wOc (G:Nat->Nat->Int) (i:Nat):∀ k,(ahK G i k).length <= k
 | 0=>by simp [ahK]
 | k + 1=>by
  have:=wOc G i k
  rw [wNC]
  split
  ·rw [nH,nO];omega
  ·omega
theorem wPw (G:Nat->Nat->Int) (i:Nat):∀ k,beK G i k <= k
 | 0=>by simp [beK]
 | k + 1=>by
  have:=wPw G i k
  rw [wND]
  split <;> omega
def plL (n:Nat) (G:Nat->Nat->Int):List wAD:=(nB n).map fun i=>⟨1 + ((ahK G i n).length:Int),1 + (beK G i n:Int)⟩
theorem wRs {α:Type} [Inhabited α] {n k:Nat} (f:Nat->α) (h:k < n):gd ((nB n).map f) k=f k:=by
 rw [wMB (by simpa using h)]
 simp
section
variable {r:wAF} {d:wAu} {pts:List Pt} (D:Desk r d pts)
include D
theorem wMG (hy:∃ y,wFa r y) {m:Int} (m0:0 <= m) (m1:m <= r.Splits.length) {F:Nat->Pt->Int} (hF:∀ i,i < r.Starts.length->IsDP r ⟨(i:Int),m⟩ (F i)):∃ a,wCb d m=some a/\∀ i j,i < r.Starts.length->j < r.Starts.length->a.get (i * 8 + j)=F i ⟨(j:Int),m⟩:=by
 have hn:=D.c.n
 have ok:∀ i,i < r.Starts.length->wIz r ⟨(i:Int),m⟩:=fun i hi=>.inr (.inl ⟨by simp only;omega,by simp only;omega,m0,m1⟩)
 unfold wCb
 rw [D.race]
 obtain ⟨a,e,I⟩:=wHB (n:=r.Starts.length) (body:=fun k19 a18 =>
  (wAw d (wBE d.number (⟨(↑k19:Int),m⟩:wAK) 0) false).bind fun (x47,x48,x49) =>
  (wBf 0 (↑r.Starts.length:Int) (fun k79 a78 =>
   (chk (wBE d.number (⟨(↑k79:Int),m⟩:wAK) 0) x47.far.length).bind fun _ =>
   (chk (↑k19:Int) 8).bind fun _ =>
   (chk (↑k79:Int) 8).bind fun _ =>
   some (a78.set (k19 * 8 + k79) (gd x47.far (wBE d.number (⟨(↑k79:Int),m⟩:wAK) 0).toNat))) a18).bind fun y84 =>
  some y84) (s0:=(Arr.fill 64 0)) (fun k (a:Arr Int 64)=>∀ i j,i < k->j < r.Starts.length->a.get (i * 8 + j)=F i ⟨(j:Int),m⟩) (by omega) (fun i j h=>by omega) fun k a hk I=>by
  obtain ⟨f,last,e1,fl,Q⟩:=D.from_ hy (ok k hk)
  obtain ⟨b,e2,J⟩:=wHB (n:=r.Starts.length) (body:=fun k79 a78 =>
   (chk (wBE d.number (⟨(↑k79:Int),m⟩:wAK) 0) f.far.length).bind fun _ =>
   (chk (↑k:Int) 8).bind fun _ =>
   (chk (↑k79:Int) 8).bind fun _ =>
   some (a78.set (k * 8 + k79) (gd f.far (wBE d.number (⟨(↑k79:Int),m⟩:wAK) 0).toNat))) (s0:=a) (fun l (a:Arr Int 64)=>(∀ i j,i < k->j < r.Starts.length->a.get (i * 8 + j)=F i ⟨(j:Int),m⟩)/\∀ j,j < l->a.get (k * 8 + j)=F k ⟨(j:Int),m⟩) (by omega) ⟨I,fun j h=>by omega⟩ fun l a hl J=>by
   obtain ⟨h1,_,h3⟩:=D.pos_ok (ok l hl)
   refine ⟨a.set (k * 8 + l) (F k ⟨(l:Int),m⟩),?_,?_⟩
   ·rw [h3,wEB (by omega) (by omega),hD,wEB (by omega) (by omega),hD,wEB (by omega) (by omega),hD,nQ,(hF k hk).one Q (ok l hl)]
   ·refine ⟨fun i j hi hj=>?_,fun j hj=>?_⟩
    ·rw [wRr _ (by omega),if_neg (by omega),J.1 i j hi hj]
    ·rw [wRr _ (by omega)]
     by_cases c:j=l
     ·subst c
      rw [if_pos rfl]
     ·rw [if_neg (by omega),J.2 j (by omega)]
  refine ⟨b,?_,fun i j hi hj=>?_⟩
  ·rw [(D.pos_ok (ok k hk)).2.2,e1,hD]
   simp only
   rw [e2];rfl
  ·by_cases c:i=k
   ·subst c;exact J.2 j hj
   ·exact J.1 i j (by omega) hj
 exact ⟨a,by rw [e];rfl,I⟩
end
theorem wOd {r:wAF} (S:wIH r) (m:Int):∃ o,wEf r m=some (o,wIu r [⟨0,m⟩])/\(wIu r [⟨0,m⟩]=0->∃ d pts,o=some d/\Desk r d pts)/\(wIu r [⟨0,m⟩] ≠ 0->o=none):=by
 obtain ⟨o,e,h⟩:=wNB S (l:=[⟨0,m⟩]) (by simp)
 refine ⟨o,?_,h⟩
 unfold wEf
 rw [e,hD]
 cases o <;> rfl
theorem wRt {r:wAF} {m:Int} (h:wIu r [⟨0,m⟩]=0):RC r/\0 <= m/\m <= r.Splits.length/\∃ y,wFa r y:=by
 obtain ⟨C,_,hs,hy⟩:=err0 h
 simp only [nj,kD,nv] at hs
 have:=wOb hs
 exact ⟨C,this.2.2.2.1,this.2.2.2.2,hy⟩
theorem wOe {r:wAF} (S:wIH r) (m:Int):(wIu r [⟨0,m⟩] ≠ 0->wBZ r m=some ([],wIu r [⟨0,m⟩]))/\(wIu r [⟨0,m⟩]=0->∀ F:Nat->Pt->Int,(∀ i,i < r.Starts.length->IsDP r ⟨(i:Int),m⟩ (F i))->wBZ r m=some (plL r.Starts.length (fun i j=>F i ⟨(j:Int),m⟩),0)):=by
 unfold wBZ
 obtain ⟨o,e,h0,h1⟩:=wOd S m
 rw [e,hD]
 simp only
 constructor
 ·intro c
  have ho:=h1 c
  subst ho
  simp only
  rw [if_neg c]
 ·intro c F hF
  obtain ⟨d,pts,rfl,D⟩:=h0 c
  obtain ⟨C,m0,m1,hy⟩:=wRt c
  obtain ⟨a,e1,ha⟩:=wMG D hy m0 m1 hF
  have hn:=C.n
  simp only
  rw [if_pos c,e1,hD,wDu (S:=List wAD) (n:=r.Starts.length) (fun k=>(plL r.Starts.length fun i j=>F i ⟨(j:Int),m⟩).take k) (s0:=[]) (by simp) (by omega) fun k hk=>?_]
  ·rw [hD,show (plL r.Starts.length fun i j=>F i ⟨(j:Int),m⟩).take r.Starts.length=plL r.Starts.length fun i j=>F i ⟨(j:Int),m⟩ from List.take_of_length_le (by simp [plL])]
  ·rw [wDu (S:=Int × Int) (n:=r.Starts.length) (fun j=>(1 + ((ahK (fun i j=>F i ⟨(j:Int),m⟩) k j).length:Int),1 + (beK (fun i j=>F i ⟨(j:Int),m⟩) k j:Int))) (s0:=(1,1)) (by simp [ahK,beK]) (by omega) fun j hj=>?_]
   ·have pl:(plL r.Starts.length fun i j=>F i ⟨(j:Int),m⟩).length=r.Starts.length:=by simp [plL]
    rw [hD]
    simp only
    rw [wDZ (by rw [nM];simp only [nD,nI];omega),hD,wGW (by rw [pl];exact hk)]
    unfold plL
    rw [wRs _ hk]
   ·have l1:=wOc (fun i j=>F i ⟨(j:Int),m⟩) k j
    have l2:=wPw (fun i j=>F i ⟨(j:Int),m⟩) k j
    simp only
    rw [wEB (by omega) (by omega),hD,wEB (by omega) (by omega),hD,ha k j hk hj,ha j k hj hk,wAX (by omega) (by omega),wAX (by omega) (by omega),wNC,wND]
    by_cases c1:F k ⟨(j:Int),m⟩ < 0
    ·rw [if_pos c1,if_pos c1]
     by_cases c2:0 < F j ⟨(k:Int),m⟩
     ·rw [if_pos c2,if_pos c2,nH,nO]
      congr 2 <;> omega
     ·rw [if_neg c2,if_neg c2,nH,nO]
      congr 2
    ·rw [if_neg c1,if_neg c1]
     by_cases c2:0 < F j ⟨(k:Int),m⟩
     ·rw [if_pos c2,if_pos c2]
      congr 2
     ·rw [if_neg c2,if_neg c2]
open Go.KL Go.KL.Net
open Classical
theorem wNX {r:wAF} {d:wAu} {pts:List Pt} (D:Desk r d pts) (hy:∃ y,wFa r y) {a b:Pt} (ha:wIz r a) (hb:wIz r b) {f g:Pt->Int} (hf:IsDP r a f) (hg:IsDP r b g):wCG d a b=some ⟨-g a,f b⟩:=by
 obtain ⟨f',l1,e1,n1,F'⟩:=D.from_ hy ha
 obtain ⟨g',l2,e2,n2,G'⟩:=D.from_ hy hb
 have f1:=F'.one hf hb
 have g1:=G'.one hg ha
 have gn:=hg.near D.c hb ha
 have pa:=D.pos_ok ha
 have pb:=D.pos_ok hb
 unfold wCG
 rw [pa.2.2,pb.2.2,e1,hD]
 simp only
 rw [hD,e2,hD]
 simp only
 rw [hD]
 simp only
 rw [wEB (by omega) (by omega),hD,wEB (by omega) (by omega),hD,nQ,nQ,f1,g1,wAX (by omega) (by omega)]
theorem wPH {r:wAF} (S:wIH r) (s:wAa):(wIu r [s] ≠ 0->wBy r s=some (⟨0,0⟩,wIu r [s]))/\(wIu r [s]=0->∀ f g,IsDP r zp f->IsDP r (pt s) g->wBy r s=some (⟨-g zp,f (pt s)⟩,0)):=by
 unfold wBy
 obtain ⟨o,e,h0,h1⟩:=wNB S (l:=[s]) (by simp)
 rw [e,hD]
 simp only
 constructor
 ·intro c
  have ho:=h1 c
  subst ho
  simp only
  rw [if_neg c]
 ·intro c f g hf hg
  obtain ⟨d,pts,rfl,D⟩:=h0 c
  obtain ⟨C,_,hs,hy⟩:=err0 c
  simp only [nj,kD,nv] at hs
  have hp:=(wOb (r:=r) (s:=s) hs).1
  simp only
  rw [if_pos c]
  unfold wDD wGg
  rw [hD,hD]
  show (wCG d zp (pt s)).bind _=_
  rw [wNX D hy (.inl rfl) hp hf hg]
  rfl
theorem wOf {r:wAF} (S:wIH r) (c:wME r=0) (hy:∃ y,wFa r y) {a:Pt} (ha:wIz r a):∃ f,IsDP r a f:=by
 rcases wNA S with ⟨c0,_⟩ | ⟨_,d,pts,_,D⟩
 ·exact absurd c c0
 ·obtain ⟨f,l,_,_,F⟩:=D.from_ hy ha
  exact ⟨_,F⟩
open Go.KL Go.KL.Net
theorem wKe {r:wAF} (C:RC r):wME r=0:=by
 unfold wME
 rw [if_neg (fun h=>h C.n),if_neg (by have:=C.m;omega),if_neg (by have:=C.c;omega),if_neg (by have:=C.q;omega),if_pos (nS.2 fun s hs=>by
  have:=C.st s hs
  unfold stP wIF
  rw [decide_eq_true_eq];omega),if_pos (nS.2 fun s hs=>by
  have:=C.sp s hs
  unfold spP wPG
  rw [decide_eq_true_eq];omega),if_pos (nS.2 fun s hs=>by
  have:=C.ck s hs
  unfold ckP wPG wIF
  rw [nU,decide_eq_true_eq,decide_eq_true_eq];omega),if_pos (nS.2 fun s hs=>by
  have:=C.rt s hs
  unfold rtP wIF
  rw [decide_eq_true_eq];omega),if_pos (nS.2 fun s hs=>by
  have:=C.ru s hs
  unfold ruP wIF
  rw [nU,nU,decide_eq_true_eq,decide_eq_true_eq,decide_eq_true_eq];omega)]
open Go.KL Go.KL.Net
open Classical
structure F4 (r:wAF) (y:Pt->Int):Prop where
 a:∀ s:Nat,s < r.Starts.length->y ⟨(s:Int),0⟩=y zp + gd r.Starts s
 b:∀ s k:Nat,s < r.Starts.length->k < r.Splits.length->(gd r.Splits k).Lo <= y ⟨(s:Int),(k:Int) + 1⟩ - y ⟨(s:Int),(k:Int)⟩/\y ⟨(s:Int),(k:Int) + 1⟩ - y ⟨(s:Int),(k:Int)⟩ <= (gd r.Splits k).Hi
 c:∀ k:Nat,k < r.Clocks.length->y ⟨-1,1 + (k:Int)⟩ <= y zp - (gd r.Clocks k).Offset.Lo/\y zp <= y ⟨-1,1 + (k:Int)⟩ + (gd r.Clocks k).Offset.Hi
 d:∀ x ∈ r.Readings,y ⟨x.Skier,x.Mat⟩ <= y ⟨-1,1 + x.Clock⟩ + (x.Time + (gd r.Clocks x.Clock.toNat).Error)/\y ⟨-1,1 + x.Clock⟩ <= y ⟨x.Skier,x.Mat⟩ + ((gd r.Clocks x.Clock.toNat).Error - x.Time)
theorem wRu {r:wAF} {y:Pt->Int}:wFa r y ↔ F4 r y:=by
 constructor
 ·intro F
  refine ⟨fun s hs=>?_,fun s k hs hk=>?_,fun k hk=>?_,fun x hx=>?_⟩
  ·have h:=fp0 F (s:=(s:Int)) (by omega) (by omega)
   rwa [nQ] at h
  ·have h:=fp1 F (s:=(s:Int)) (k:=(k:Int)) (by omega) (by omega) (by omega) (by omega)
   rw [nQ] at h
   omega
  ·have h:=fp2 F (k:=(k:Int)) (by omega) (by omega)
   rwa [nQ] at h
  ·obtain ⟨k,hk,rfl⟩:=wOV hx
   have a:y ⟨(gd r.Readings k).Skier,(gd r.Readings k).Mat⟩ <= y ⟨-1,1 + (gd r.Readings k).Clock⟩ + ((gd r.Readings k).Time + (gd r.Clocks (gd r.Readings k).Clock.toNat).Error):=F ⟨3,0,(k:Int),true⟩ (.inr (.inr (.inr ⟨rfl,rfl,by simp only;omega,by simp only;omega⟩)))
   have b:y ⟨-1,1 + (gd r.Readings k).Clock⟩ <= y ⟨(gd r.Readings k).Skier,(gd r.Readings k).Mat⟩ + ((gd r.Clocks (gd r.Readings k).Clock.toNat).Error - (gd r.Readings k).Time):=F ⟨3,0,(k:Int),false⟩ (.inr (.inr (.inr ⟨rfl,rfl,by simp only;omega,by simp only;omega⟩)))
   exact ⟨a,b⟩
 ·rintro ⟨h1,h2,h3,h4⟩ x hx
  have key:y (wFZ r x).2.1 <= y (wFZ r x).1 + (wFZ r x).2.2.1/\y (wFZ r x).1 <= y (wFZ r x).2.1 + (wFZ r x).2.2.2:=by
   unfold wFZ
   rcases hx with ⟨k,a,b,c⟩ | ⟨k,a,b,c,d⟩ | ⟨k,a,c,d⟩ | ⟨k,a,c,d⟩
   ·have h:=h1 x.Skier.toNat (by omega)
    rw [nN a] at h
    rw [if_pos k]
    simp only
    omega
   ·have h:=h2 x.Skier.toNat x.Index.toNat (by omega) (by omega)
    rw [nN a,nN c] at h
    rw [if_neg (by omega),if_pos k]
    simp only
    omega
   ·have h:=h3 x.Index.toNat (by omega)
    rw [nN c] at h
    rw [if_neg (by omega),if_neg (by omega),if_pos k]
    simp only
    omega
   ·have h:=h4 _ (wEG c d)
    rw [if_neg (by omega),if_neg (by omega),if_neg (by omega)]
    simp only
    omega
  unfold wEp
  split
  ·exact key.1
  ·exact key.2
open Go.KL Go.KL.Net
open Classical
def tmv (s0:Int) (T:List (List Int)) (i k:Nat):Int:=gd (s0 :: gd T i) k
structure Lp (s0:Int) (T:List (List Int)) (L:Nat) (tl:List Nat):Prop where
 n:1 <= tl.length/\tl.length <= 8
 lap:L <= 5
 s:0 <= s0/\s0 <= 1000
 up:∀ j,j < tl.length->∀ k,k < L->1 <= tmv s0 T (gd tl j) (k + 1) - tmv s0 T (gd tl j) k/\tmv s0 T (gd tl j) (k + 1) - tmv s0 T (gd tl j) k <= 9000
structure Rd (s0:Int) (T:List (List Int)) (L:Nat) (tl:List Nat) (o:Int) (rd:List wAP):Prop where
 q:rd.length <= 40
 all:∀ x ∈ rd,∃ j k:Nat,j < tl.length/\k <= L/\x=⟨(j:Int),(k:Int),0,tmv s0 T (gd tl j) k + o⟩
def rcR (s0:Int) (L m:Nat) (lo hi:Int) (rd:List wAP):wAF:=⟨nA m s0,nA L ⟨1,9000⟩,[⟨⟨lo,hi⟩,0⟩],rd⟩
section
variable {s0:Int} {T:List (List Int)} {L:Nat} {tl:List Nat} {o lo hi:Int} {rd:List wAP} (P:Lp s0 T L tl) (R:Rd s0 T L tl o rd) (ho:0 <= o/\o <= 30/\lo <= o/\o <= hi/\-30 <= lo/\hi <= 30)
include P in
theorem Lp.near {j:Nat} (hj:j < tl.length):∀ k,k <= L->0 <= tmv s0 T (gd tl j) k/\tmv s0 T (gd tl j) k <= 1000 + 9000 * (k:Int)
 | 0,_=>by
  have:=P.s
  show 0 <= s0/\s0 <= _
  omega
 | k + 1,h=>by
  have h1:=P.up j hj k (by omega)
  have h2:=Lp.near hj k (by omega)
  omega
theorem wOg {α:Type} [Inhabited α] {n k:Nat} (x:α) (h:k < n):gd (nA n x) k=x:=by
 rw [wMB (by simpa using h),kH]
include P R ho in
theorem wQk:RC (rcR s0 L tl.length lo hi rd):=by
 have hn:=P.n;have hL:=P.lap;have hs:=P.s;have hq:=R.q
 refine ⟨?_,?_,?_,R.q,fun s h=>?_,fun s h=>?_,fun s h=>?_,fun x h=>?_,fun x h=>?_⟩
 ·show 1 <= (nA _ _).length/\(nA _ _).length <= 8
  rw [nE];exact hn
 ·show (nA _ _).length <= 7
  rw [nE];omega
 ·show 1 <= 4;omega
 ·have:=(kV.1 h).2
  omega
 ·have:=(kV.1 h).2
  subst this
  simp only;omega
 ·have:=nP.1 h
  subst this
  simp only;omega
 ·obtain ⟨j,k,hj,hk,rfl⟩:=R.all x h
  have:=P.near hj k hk
  simp only;omega
 ·obtain ⟨j,k,hj,hk,rfl⟩:=R.all x h
  show 0 <= (j:Int)/\(j:Int) < (nA _ _).length/\0 <= (k:Int)/\(k:Int) <= (nA _ _).length/\(0:Int) <= 0/\(0:Int) < 1
  rw [nE,nE]
  omega
def yR (s0:Int) (T:List (List Int)) (tl:List Nat) (o:Int) (p:Pt):Int:=if p.skier=-1 then (if p.mat=0 then 0 else -o) else tmv s0 T (gd tl p.skier.toNat) p.mat.toNat
theorem wQl (j k:Nat):yR s0 T tl o ⟨(j:Int),(k:Int)⟩=tmv s0 T (gd tl j) k:=by
 unfold yR
 rw [if_neg (by simp only;omega)]
 simp only [nQ]
include P R ho in
theorem wKf:wFa (rcR s0 L tl.length lo hi rd) (yR s0 T tl o):=by
 have lS:(rcR s0 L tl.length lo hi rd).Starts.length=tl.length:=nE
 have lP:(rcR s0 L tl.length lo hi rd).Splits.length=L:=nE
 rw [wRu]
 refine ⟨fun s hs=>?_,fun s k hs hk=>?_,fun k hk=>?_,fun x hx=>?_⟩
 ·rw [lS] at hs
  show yR s0 T tl o ⟨(s:Int),((0:Nat):Int)⟩=0 + gd (nA _ _) s
  rw [wQl,wOg _ hs]
  show s0=_
  omega
 ·rw [lS] at hs
  rw [lP] at hk
  have h1:=wQl (s0:=s0) (T:=T) (tl:=tl) (o:=o) s (k + 1)
  rw [show ((k + 1:Nat):Int)=(k:Int) + 1 by omega] at h1
  rw [h1,wQl]
  show (gd (nA L (⟨1,9000⟩:wAD)) k).Lo <= _/\_ <= (gd (nA L (⟨1,9000⟩:wAD)) k).Hi
  rw [wOg _ hk]
  exact P.up s hs k hk
 ·have:k=0:=by
   have:k < 1:=hk
   omega
  subst this
  show -o <= 0 - lo/\0 <= -o + hi
  omega
 ·obtain ⟨j,k,hj,hk,rfl⟩:=R.all x hx
  show yR s0 T tl o ⟨(j:Int),(k:Int)⟩ <= -o + (tmv s0 T (gd tl j) k + o + 0)/\-o <= yR s0 T tl o ⟨(j:Int),(k:Int)⟩ + (0 - (tmv s0 T (gd tl j) k + o))
  rw [wQl]
  omega
def Full (s0:Int) (T:List (List Int)) (L:Nat) (tl:List Nat) (o:Int) (rd:List wAP):Prop:=∀ j k:Nat,j < tl.length->k <= L->(⟨(j:Int),(k:Int),0,tmv s0 T (gd tl j) k + o⟩:wAP) ∈ rd
theorem wKg (F:Full s0 T L tl o rd) {z:Pt->Int} (hz:wFa (rcR s0 L tl.length lo hi rd) z) {j k:Nat} (hj:j < tl.length) (hk:k <= L):z ⟨(j:Int),(k:Int)⟩=z zp + tmv s0 T (gd tl j) k:=by
 have lS:(rcR s0 L tl.length lo hi rd).Starts.length=tl.length:=nE
 have f:=wRu.1 hz
 have h1:=f.a j (by rw [lS];exact hj)
 have h2:=f.d _ (F j 0 hj (by omega))
 have h3:=f.d _ (F j k hj hk)
 have e:(gd (rcR s0 L tl.length lo hi rd).Starts j)=s0:=wOg _ hj
 have e2:tmv s0 T (gd tl j) 0=s0:=rfl
 rw [e] at h1
 simp only [e2] at h2
 have e3:(gd (rcR s0 L tl.length lo hi rd).Clocks (0:Int).toNat).Error=0:=rfl
 simp only [e3] at h2 h3
 have e4:z ⟨(j:Int),((0:Nat):Int)⟩=z ⟨(j:Int),0⟩:=rfl
 rw [e4] at h2
 omega
include P R ho in
theorem wPx {s:wAa} (hs:0 <= s.Skier/\s.Skier < tl.length/\0 <= s.Mat/\s.Mat <= L):wIH (rcR s0 L tl.length lo hi rd)/\wIu (rcR s0 L tl.length lo hi rd) [s]=0:=by
 have lS:(rcR s0 L tl.length lo hi rd).Starts.length=tl.length:=nE
 have lP:(rcR s0 L tl.length lo hi rd).Splits.length=L:=nE
 have C:=wQk P R ho
 refine ⟨⟨by have:=C.n;omega,by have:=C.m;omega,by have:=C.c;omega,by have:=C.q;omega⟩,?_⟩
 unfold wIu
 rw [if_pos (wKe C),if_pos,if_pos ⟨_,wKf P R ho⟩]
 simp only [nj,kD,nv,wMF,wIF,lS,lP,nU,decide_eq_true_eq]
 omega
include P R ho in
theorem wNE {j:Nat} (hj:j < tl.length):∃ s,wBy (rcR s0 L tl.length lo hi rd) ⟨(j:Int),(L:Int)⟩=some (s,0)/\s.Lo <= tmv s0 T (gd tl j) L/\tmv s0 T (gd tl j) L <= s.Hi/\(Full s0 T L tl o rd->s=⟨tmv s0 T (gd tl j) L,tmv s0 T (gd tl j) L⟩):=by
 have lS:(rcR s0 L tl.length lo hi rd).Starts.length=tl.length:=nE
 have lP:(rcR s0 L tl.length lo hi rd).Splits.length=L:=nE
 have C:=wQk P R ho
 have Y:=wKf P R ho
 obtain ⟨S,e0⟩:=wPx P R ho (s:=⟨(j:Int),(L:Int)⟩) (by simp only;omega)
 have hp:wIz (rcR s0 L tl.length lo hi rd) (pt ⟨(j:Int),(L:Int)⟩):=.inr (.inl ⟨by simp only [pt];omega,by simp only [pt];omega,by simp only [pt];omega,by simp only [pt];omega⟩)
 obtain ⟨f,hf⟩:=wOf S (wKe C) ⟨_,Y⟩ (a:=zp) (.inl rfl)
 obtain ⟨g,hg⟩:=wOf S (wKe C) ⟨_,Y⟩ hp
 have y1:yR s0 T tl o (pt ⟨(j:Int),(L:Int)⟩)=tmv s0 T (gd tl j) L:=wQl j L
 have y0:yR s0 T tl o zp=0:=rfl
 have h1:=hf.gr _ Y _ hp
 have h2:=hg.gr _ Y zp (.inl rfl)
 rw [y1,y0] at h1 h2
 refine ⟨_,(wPH S _).2 e0 f g hf hg,by simp only;omega,by simp only;omega,fun F=>?_⟩
 have f1:=wKg F hf.ok hj (nX L)
 have g1:=wKg F hg.ok hj (nX L)
 have f0:=hf.zero
 have g0:=hg.zero
 have e1:pt ⟨(j:Int),(L:Int)⟩=(⟨(j:Int),(L:Int)⟩:Pt):=rfl
 rw [e1] at g0 ⊢
 congr 1 <;> omega
def wPy (s0:Int) (T:List (List Int)) (L:Nat) (tl:List Nat) (j:Nat):Nat:=(nB tl.length).countP fun i=>decide (tmv s0 T (gd tl i) L < tmv s0 T (gd tl j) L)
theorem wNY {α:Type} (p:α->Bool) (l:List α):(l.filter p).length=l.countP p:=List.countP_eq_length_filter.symm
theorem wLV {p q:Nat->Bool}:∀ {l:List Nat},(∀ x ∈ l,p x=true->q x=true)->l.countP p <= l.countP q:=fun h=>List.countP_mono_left h
include P R ho in
theorem wLW:∃ X,wBZ (rcR s0 L tl.length lo hi rd) (L:Int)=some (X,0)/\X.length=tl.length/\∀ j,j < tl.length->(gd X j).Lo <= 1 + (wPy s0 T L tl j:Int)/\1 + (wPy s0 T L tl j:Int) <= (gd X j).Hi/\(Full s0 T L tl o rd->gd X j=⟨1 + (wPy s0 T L tl j:Int),1 + (wPy s0 T L tl j:Int)⟩):=by
 have lS:(rcR s0 L tl.length lo hi rd).Starts.length=tl.length:=nE
 have lP:(rcR s0 L tl.length lo hi rd).Splits.length=L:=nE
 have C:=wQk P R ho
 have Y:=wKf P R ho
 have hn:=P.n
 obtain ⟨S,e0⟩:=wPx P R ho (s:=⟨0,(L:Int)⟩) (by simp only;omega)
 have ok:∀ i,i < tl.length->wIz (rcR s0 L tl.length lo hi rd) ⟨(i:Int),(L:Int)⟩:=fun i hi=>.inr (.inl ⟨by simp only;omega,by simp only;omega,by simp only;omega,by simp only;omega⟩)
 have ex:∀ i,∃ f,i < tl.length->IsDP (rcR s0 L tl.length lo hi rd) ⟨(i:Int),(L:Int)⟩ f:=fun i=>by
  by_cases h:i < tl.length
  ·obtain ⟨f,hf⟩:=wOf S (wKe C) ⟨_,Y⟩ (ok i h)
   exact ⟨f,fun _=>hf⟩
  ·exact ⟨fun _=>0,fun h'=>absurd h' h⟩
 obtain ⟨F,hF⟩:=Classical.axiomOfChoice ex
 refine ⟨_,(wOe S _).2 e0 F (fun i hi=>hF i (by rw [lS] at hi;exact hi)),by simp [plL,lS],fun j hj=>?_⟩
 have lo':∀ i k,i < tl.length->k < tl.length->tmv s0 T (gd tl k) L - tmv s0 T (gd tl i) L <= F i ⟨(k:Int),(L:Int)⟩:=fun i k hi hk=>by
  have:=(hF i hi).gr _ Y _ (ok k hk)
  rwa [wQl,wQl] at this
 unfold plL
 rw [wRs _ (by rw [lS];exact hj)]
 unfold ahK beK
 rw [nK,wNY,lS]
 show 1 + (((nB tl.length).countP fun i=>decide (F j ⟨((i:Nat):Int),(L:Int)⟩ < 0):Nat):Int) <= _/\_ <= 1 + (((nB tl.length).countP fun i=>decide (0 < F i ⟨(j:Int),(L:Int)⟩):Nat):Int)/\(_->(⟨1 + (((nB tl.length).countP fun i=>decide (F j ⟨((i:Nat):Int),(L:Int)⟩ < 0):Nat):Int),1 + (((nB tl.length).countP fun i=>decide (0 < F i ⟨(j:Int),(L:Int)⟩):Nat):Int)⟩:wAD)=_)
 unfold wPy
 refine ⟨?_,?_,fun A=>?_⟩
 ·have:=wLV (l:=nB tl.length) (p:=fun i=>decide (F j ⟨(i:Int),(L:Int)⟩ < 0)) (q:=fun i=>decide (tmv s0 T (gd tl i) L < tmv s0 T (gd tl j) L)) fun i hi h=>by
   have:=lo' j i hj (nT.1 hi)
   simp only [decide_eq_true_eq] at h ⊢
   omega
  omega
 ·have:=wLV (l:=nB tl.length) (q:=fun i=>decide (0 < F i ⟨(j:Int),(L:Int)⟩)) (p:=fun i=>decide (tmv s0 T (gd tl i) L < tmv s0 T (gd tl j) L)) fun i hi h=>by
   have:=lo' i j (nT.1 hi) hj
   simp only [decide_eq_true_eq] at h ⊢
   omega
  omega
 ·have eq:∀ i k,i < tl.length->k < tl.length->F i ⟨(k:Int),(L:Int)⟩=tmv s0 T (gd tl k) L - tmv s0 T (gd tl i) L:=fun i k hi hk=>by
   have h0:=(hF i hi).zero
   have h1:=wKg A (hF i hi).ok hi (nX L)
   have h2:=wKg A (hF i hi).ok hk (nX L)
   omega
  have c1:(nB tl.length).countP (fun (i:Nat)=>decide (F j ⟨(i:Int),(L:Int)⟩ < 0))=(nB tl.length).countP fun i=>decide (tmv s0 T (gd tl i) L < tmv s0 T (gd tl j) L):=nz fun i hi=>by
   simp only [decide_eq_true_eq,eq j i hj (nT.1 hi)]
   omega
  have c2:(nB tl.length).countP (fun i=>decide (0 < F i ⟨(j:Int),(L:Int)⟩))=(nB tl.length).countP fun i=>decide (tmv s0 T (gd tl i) L < tmv s0 T (gd tl j) L):=nz fun i hi=>by
   simp only [decide_eq_true_eq,eq i j (nT.1 hi) hj]
   omega
  rw [c1,c2]
end
def inB (n lo hi:Int):Bool:=decide (lo <= n/\n <= hi)
theorem wIv (n lo hi:Int):wBO n lo hi=some (inB n lo hi):=by
 unfold wBO inB
 by_cases h:lo <= n
 ·rw [if_pos h];simp [h]
 ·rw [if_neg h];simp [h]
def wEq:List Bool->Nat->Option Nat
 | [],k=>some k
 | b :: l,k=>if k=5 then none else wEq l (k + if b=true then 1 else 0)
theorem wII:∀ (l:List Bool) (k m:Nat),k <= 5->wEq l k=some m->k <= m/\m <= 5
 | [],k,m,hk,h=>by cases h;omega
 | b :: l,k,m,hk,h=>by
  rw [wEq] at h
  split at h
  ·cases h
  ·have:=wII l _ m (by split <;> omega) h
   split at this <;> omega
theorem wJW {l:List Bool} {R:Type} (z:R) (K:Int->Option R):∀ (m k h:Nat),k + m=l.length->h <= 5 ->
  jn (forN (fun k23 (x22:Int)=>(idx l (↑k23:Int)).bind fun x45=>if x22=0 then esc (some z) else if x45=true then some (.inl (w64 (x22 - 1))) else some (.inl x22)) m k (5 - (h:Int))) K =
   (match wEq (l.drop k) h with | none=>some z | some m=>K (5 - (m:Int)))
 | 0,k,h,hk,_=>by rw [kI (by omega)];rfl
 | m + 1,k,h,hk,h5=>by
  have hlt:k < l.length:=by omega
  rw [List.drop_eq_getElem_cons hlt,wEq,forN,wKP,kE hlt]
  simp only [hD]
  by_cases hz:h=5
  ·rw [if_pos (by omega),if_pos hz];rfl
  ·rw [if_neg (by omega),if_neg hz]
   by_cases hb:l[k]=true
   ·rw [if_pos hb,if_pos hb,wAX (by omega) (by omega)]
    have:=wJW (l:=l) z K m (k + 1) (h + 1) (by omega) (by omega)
    rw [show (5:Int) - ((h + 1:Nat):Int)=5 - (h:Int) - 1 by omega] at this
    exact this
   ·rw [if_neg hb,if_neg hb]
    exact wJW (l:=l) z K m (k + 1) h (by omega) h5
def okB (b:List Bool):Prop:=5 <= b.length/\b.length <= 8/\∃ m,wEq b 0=some m
def wIe (b:List Bool):Nat:=(wEq b 0).getD 0
theorem wPI (b:List Bool):wIe b <= 5:=by
 unfold wIe
 cases h:wEq b 0 with
 | none=>exact Nat.zero_le _
 | some m=>exact (wII b 0 m (by omega) h).2
theorem wOh {l:List Bool} (h:okB l):wCv l=some (⟨(l.length:Int) - 5,5 - (wIe l:Int),if wIe l < 5 then 8 - (l.length:Int) else 0⟩,0):=by
 obtain ⟨h1,h2,m,hq⟩:=h
 have hn:wIe l=m:=by unfold wIe;rw [hq];rfl
 rw [hn]
 unfold wCv
 have hi:inB l.length 5 8=true:=by unfold inB;simp;omega
 rw [wIv,hD,hi,if_pos rfl,wFp (by omega)]
 have:=wJW (l:=l) (R:=wAi × Int) ((⟨0,0,0⟩:wAi),8) (fun y72=>if 0 < y72 then
   some ((⟨w64 ((↑l.length:Int) - 5),y72,w64 (8 - (↑l.length:Int))⟩:wAi),0)
  else
   some ((⟨w64 ((↑l.length:Int) - 5),y72,0⟩:wAi),0)) l.length 0 0 (by omega) (by omega)
 rw [List.drop_zero] at this
 have e:(5:Int) - ((0:Nat):Int)=5:=by omega
 rw [e] at this
 rw [this,hq]
 have:=wII l 0 m (by omega) hq
 simp only
 rw [wAX (by omega) (by omega),wAX (by omega) (by omega)]
 by_cases hm:m < 5
 ·rw [if_pos (by omega),if_pos hm]
 ·rw [if_neg (by omega),if_neg hm]
structure wGu (p:wAL):Prop where
 n:1 <= p.Classes.length/\p.Classes.length <= 4
 cls:∀ c ∈ p.Classes,0 <= c/\c <= 3
 each:1 <= p.Each/\p.Each <= 4
 laps:1 <= p.Laps/\p.Laps <= 5
 spare:0 <= p.Spare/\p.Spare <= 600
 loop:0 <= p.Loop/\p.Loop <= 600
 unused:0 <= p.Unused/\p.Unused <= 6000
structure wMH (p:wAL) (t:wAN) (l:wAM):Prop where
 le:(l.Loops.length:Int) <= p.Laps
 bouts:l.Bouts.length=l.Loops.length - 1
 loops:∀ n ∈ l.Loops,1 <= n/\n <= 9000
 skier:0 <= l.Skier/\l.Skier < t.Classes.length
 ok:∀ b ∈ l.Bouts,okB b
structure wQm (p:wAL) (t:wAN):Prop where
 bib:1 <= t.Bib/\t.Bib <= 999
 n:1 <= t.Classes.length/\t.Classes.length <= 8
 cls:∀ c ∈ t.Classes,0 <= c/\c <= 3
 legs:t.Legs.length <= p.Classes.length
 full:∀ k,k + 1 < t.Legs.length->((gd t.Legs k).Loops.length:Int)=p.Laps
 leg:∀ l ∈ t.Legs,wMH p t l
structure wKD (r:wAZ):Prop where
 rules:wGu r.Rules
 n:1 <= r.Teams.length/\r.Teams.length <= 12
 start:0 <= r.Start/\r.Start <= 36000
 team:∀ t ∈ r.Teams,wQm r.Rules t
 bibs:(r.Teams.map (·.Bib)).Nodup
theorem wDW {n lo hi:Int} (h1:lo <= n) (h2:n <= hi):inB n lo hi=true:=by unfold inB;simp [h1,h2]
theorem wMI {l:List Int} {f:Int->Option Bool} {p:Int->Bool} (hf:∀ a,f a=some (p a)) (hn:l.length <= 9223372036854775807):wBN l f=some (l.all p):=by
 unfold wBN wBY wBz wCR
 have:=wIc (R:=Int) (l:=l) (f:=fun x=>(f x).bind fun x5=>some (!x5)) (p:=fun a=>!p a) (fun a _=>by rw [hf];rfl) hn id
 simp only [id] at this
 rw [this]
 simp only [hD,wIC]
 congr 1
 clear this hn
 induction l with
 | nil=>rfl
 | cons a l ih=>rw [List.any_cons,nj,<- ih];cases p a <;> simp
theorem wQn {l:List wAT} {f:wAT->Option Bool} {p:wAT->Bool} (hf:∀ a ∈ l,f a=some (p a)) (hn:l.length <= 9223372036854775807):wBg l f=some (l.all p):=by
 unfold wBg wAo wAt wAz
 have:=wIc (R:=Int) (l:=l) (f:=fun x=>(f x).bind fun x5=>some (!x5)) (p:=fun a=>!p a) (fun a ha=>by rw [hf a ha];rfl) hn id
 simp only [id] at this
 rw [this]
 simp only [hD,wIC]
 congr 1
 clear this hn hf
 induction l with
 | nil=>rfl
 | cons a l ih=>rw [List.any_cons,nj,<- ih];cases p a <;> simp
theorem wNF {l:List wAN} {f:wAN->Option Bool} (hf:∀ a ∈ l,f a=some true) (hn:l.length <= 9223372036854775807):wBQ l f=some true:=by
 unfold wBQ wAr wAv wBG
 have:=wIc (R:=Int) (l:=l) (f:=fun x=>(f x).bind fun x5=>some (!x5)) (p:=fun _=>false) (fun a ha=>by rw [hf a ha];rfl) hn id
 simp only [id] at this
 rw [this]
 simp only [hD,wIC]
 simp
theorem wPJ {p:wAL} (g:wGu p):wCS p=some 0:=by
 unfold wCS
 have h1:=g.n
 have h2:=g.each;have h3:=g.laps;have h4:=g.spare;have h5:=g.loop;have h6:=g.unused
 rw [wIv,hD,wDW (by omega) (by omega),if_pos rfl]
 have hc:wCN p.Classes=some true:=by
  unfold wCN
  rw [wMI (f:=wBP) (p:=fun n=>inB n 0 3) (fun a=>by unfold wBP;rw [wIv];rfl) (by omega),hD]
  exact congrArg some (nS.2 fun c hc=>wDW (g.cls c hc).1 (g.cls c hc).2)
 rw [hc,hD,if_pos rfl]
 unfold wEx
 rw [hD,wQn (p:=fun a=>match a.of p with | some x=>inB x a.lo a.hi | none=>true) (fun a ha=>by
  unfold wBq
  simp only [ni,nh,or_false] at ha
  rcases ha with rfl | rfl | rfl | rfl | rfl <;> simp [wBs,wBt,wBu,wBv,wBw,wIv]) (by simp)]
 simp only [hD,nj,kD,nv,wBs,wBt,wBu,wBv,wBw]
 rw [wDW h2.1 h2.2,wDW h3.1 h3.2,wDW h4.1 h4.2,wDW h5.1 h5.2,wDW h6.1 h6.2]
 rfl
theorem wPK {p:wAL} (gp:wGu p) {t:wAN} (g:wQm p t):wBc p t=some true:=by
 unfold wBc
 have h1:=g.n;have h2:=g.legs;have h3:=gp.n;have h4:=gp.laps
 rw [wIv,hD,wDW (by omega) (by omega),if_pos rfl,if_neg (by omega)]
 rw [wGs (by omega) fun k hk=>?_]
 ·rfl
 ·have gl:=g.leg _ (wCt hk)
  have b1:=gl.le;have b2:=gl.bouts
  rw [wDE hk,hD,if_neg (by omega)]
  have hb:((gd t.Legs k).Bouts.length:Int)=max 0 (w64 (((gd t.Legs k).Loops.length:Int) - 1)):=by
   rw [wAX (by omega) (by omega)]
   omega
  rw [wAX (x:=(t.Legs.length:Int) - 1) (by omega) (by omega)]
  by_cases hl:(k:Int) < (t.Legs.length:Int) - 1
  ·rw [if_pos hl,if_neg (by have:=g.full k (by omega);omega),if_pos hb]
  ·rw [if_neg hl,if_pos hb]
theorem wMJ {E:Type} {f:Unit->(wAN × wAM)->Option (Unit ⊕ E)} {r:wAZ} (hn:r.Teams.length <= 1000) (hl:∀ t ∈ r.Teams,t.Legs.length <= 1000) (h:∀ t ∈ r.Teams,∀ l ∈ t.Legs,f () (t,l)=some (.inl ())):wBd f () r=some (.inl ()):=by
 unfold wBd
 rw [wGs (by omega) fun k hk=>?_]
 ·rfl
 ·have ht:=wCt hk
  rw [wDE hk,hD,wGs (by have:=hl _ ht;omega) fun j hj=>?_]
  ·rfl
  ·rw [wDE hj,hD,h _ ht _ (wCt hj)]
   rfl
theorem wPL {l:List (Int × Bool)} {x:Int} {v:Bool} (h:∀ q ∈ l,q.1 ≠ x):wHq l x v=l ++ [(x,v)]:=by
 induction l with
 | nil=>rfl
 | cons a l ih =>
  obtain ⟨y,u⟩:=a
  have:=h (y,u) (by simp)
  rw [wHq,if_neg (fun e=>this e.symm),ih fun q hq=>h q (by simp [hq])]
  rfl
theorem wNZ {l:List Int} (h:l.Nodup) {k:Nat} (hk:k < l.length):∀ a ∈ l.take k,a ≠ gd l k:=by
 intro a ha e
 rw [<- List.take_append_drop k l,wOR hk,ny] at h
 exact h.2.2 a ha _ (kS ..) e
theorem wPM {r:wAZ} (g:wKD r):wDw r=some 0:=by
 unfold wDw
 have h1:=g.n;have h2:=g.start
 have hl:∀ t ∈ r.Teams,t.Legs.length <= 1000:=fun t ht=>by have:=(g.team t ht).legs;have:=g.rules.n;omega
 rw [wPJ g.rules,hD,if_pos rfl,wIv,hD,wDW (by omega) (by omega),if_pos rfl,wNF (fun t ht=>wPK g.rules (g.team t ht)) (by omega),hD,if_pos rfl,
  wIv,hD,wDW h2.1 h2.2,if_pos rfl,wNF (fun t ht=>?_) (by omega),hD,if_pos rfl]
 ·unfold wCd
  rw [hD,wMJ (by omega) hl fun t ht l hm=>?_,hD]
  ·simp only [hD]
   rw [wMJ (by omega) hl fun t ht l hm=>?_,hD]
   ·simp only [hD]
    rw [wMJ (by omega) hl fun t ht l hm=>?_,hD]
    ·simp only
     have:=wDu (S:=List (Int × Bool)) (n:=r.Teams.length) (body:=fun k640 l637=>(idx r.Teams (↑k640:Int)).bind fun x664=>some (wHq l637 x664.Bib true)) (fun k=>(r.Teams.take k).map fun t=>(t.Bib,true)) (s0:=[]) rfl (by omega) fun k hk=>by
      rw [wDE hk,hD,wGW hk,nL,wPL fun q hq=>?_]
      ·rfl
      ·obtain ⟨t,ht,rfl⟩:=nR.1 hq
       have:=wNZ g.bibs (k:=k) (by simpa using hk) t.Bib (by rw [<- List.map_take];exact nR.2 ⟨t,ht,rfl⟩)
       rw [wHe _ hk] at this
       exact this
     rw [this,hD,if_neg (by simp)]
    ·have gl:=(g.team t ht).leg l hm
     have hb:=gl.bouts;have hle:=gl.le;have:=g.rules.laps
     simp only
     rw [wGs (by omega) fun k hk=>?_]
     ·rfl
     ·rw [wDE hk,hD,wOh (gl.ok _ (wCt hk))]
      rfl
   ·have gl:=(g.team t ht).leg l hm
    have:=gl.skier;have:=(g.team t ht).n
    simp only
    rw [wIv,hD,wAX (by omega) (by omega),wDW (by omega) (by omega),if_pos rfl]
  ·have gl:=(g.team t ht).leg l hm
   have hle:=gl.le;have:=g.rules.laps
   simp only
   rw [wMI (f:=wCi) (p:=fun n=>inB n 1 9000) (fun a=>by unfold wCi;rw [wIv];rfl) (by omega),hD,if_pos]
   exact nS.2 fun n hn=>wDW (gl.loops n hn).1 (gl.loops n hn).2
 ·have gt:=g.team t ht
  have:=gt.n
  unfold wDG
  rw [wIv,hD,wDW gt.bib.1 gt.bib.2,if_pos rfl]
  unfold wCN
  rw [wMI (f:=wBP) (p:=fun n=>inB n 0 3) (fun a=>by unfold wBP;rw [wIv];rfl) (by omega),hD,hD]
  exact congrArg some (nS.2 fun c hc=>wDW (gt.cls c hc).1 (gt.cls c hc).2)
def bc (p:wAL) (b:List Bool):Int:=((b.length:Int) - 5) * p.Spare + (5 - (wIe b:Int)) * p.Loop
def tAt (p:wAL) (l:wAM) (x:Int):Nat->Int
 | 0=>x
 | k + 1=>tAt p l x k + gd l.Loops k + if 0 < k then bc p (gd l.Bouts (k - 1)) else 0
def wPN (p:wAL) (l:wAM) (x:Int):List Int:=(nB l.Loops.length).map fun k=>tAt p l x (k + 1)
def wLh (p:wAL) (l:wAM) (x:Int):Int:=tAt p l x l.Loops.length
def wIf (p:wAL):List wAM->Int->Int
 | [],x=>x
 | l :: r,x=>wIf p r (wLh p l x)
def wGN (p:wAL):List wAM->Int->List Int
 | [],_=>[]
 | l :: r,x=>wPN p l x ++ wGN p r (wLh p l x)
def ends (p:wAL):List wAM->Int->List Int
 | [],_=>[]
 | l :: r,x=>if (l.Loops.length:Int)=p.Laps then wLh p l x :: ends p r (wLh p l x) else ends p r (wLh p l x)
theorem wKh {p:wAL} (g:wGu p) {b:List Bool} (h:okB b):0 <= ((b.length:Int) - 5) * p.Spare/\((b.length:Int) - 5) * p.Spare <= 1800/\0 <= (5 - (wIe b:Int)) * p.Loop/\(5 - (wIe b:Int)) * p.Loop <= 3000:=by
 obtain ⟨h1,h2,_⟩:=h
 have h3:=wPI b
 have a1:=g.spare;have a2:=g.loop
 refine ⟨kJ (by omega) a1.1,?_,kJ (by omega) a2.1,?_⟩
 ·exact kB (kK (show (b.length:Int) - 5 <= 3 by omega) a1.2 a1.1 (by omega)) (by omega)
 ·exact kB (kK (show 5 - (wIe b:Int) <= 5 by omega) a2.2 a2.1 (by omega)) (by omega)
theorem wPO {p:wAL} (gp:wGu p) {t:wAN} {l:wAM} (g:wMH p t l) (x:Int) {k:Nat} (hk:k < l.Loops.length):tAt p l x k + 1 <= tAt p l x (k + 1)/\tAt p l x (k + 1) <= tAt p l x k + 13800:=by
 have h1:=g.loops _ (wCt hk)
 rw [tAt]
 by_cases h:0 < k
 ·have hb:=g.bouts
  have:=wKh gp (g.ok _ (wCt (k:=k - 1) (by omega)))
  rw [if_pos h]
  unfold bc
  omega
 ·rw [if_neg h];omega
theorem wJX {p:wAL} (gp:wGu p) {t:wAN} {l:wAM} (g:wMH p t l) (x:Int):∀ k,k <= l.Loops.length->x + k <= tAt p l x k/\tAt p l x k <= x + 13800 * k
 | 0,_=>by simp [tAt]
 | k + 1,hk=>by
  have:=wPO gp g x (k:=k) (by omega)
  have:=wJX gp g x k (by omega)
  omega
theorem wNa {p:wAL} (gp:wGu p) {t:wAN} {l:wAM} (g:wMH p t l) (x:Int):x <= wLh p l x/\wLh p l x <= x + 69000:=by
 have:=wJX gp g x l.Loops.length (nX _)
 have:=g.le;have:=gp.laps
 unfold wLh
 omega
theorem wQo {p:wAL} (gp:wGu p) {t:wAN} {l:wAM} (g:wMH p t l) {x:Int} (hx:0 <= x/\x <= 1000000) {k:Nat} (hk:k < l.Loops.length) :
  (0 < k->idx l.Bouts (w64 ((k:Int) - 1))=some (gd l.Bouts (k - 1))/\okB (gd l.Bouts (k - 1)) /\
   w64 ((w64 (tAt p l x k + gd l.Loops k)) + (w64 ((w64 ((((gd l.Bouts (k - 1)).length:Int) - 5) * p.Spare)) + (w64 ((5 - (wIe (gd l.Bouts (k - 1)):Int)) * p.Loop)))))=tAt p l x (k + 1)) /\
  (¬ 0 < k->w64 (tAt p l x k + gd l.Loops k)=tAt p l x (k + 1)):=by
 have h1:=g.loops _ (wCt hk)
 have h2:=wJX gp g x k (by omega)
 have h3:=g.le;have h4:=gp.laps;have hb:=g.bouts
 refine ⟨fun h=>?_,fun h=>?_⟩
 ·have ho:=g.ok _ (wCt (k:=k - 1) (by omega))
  have:=wKh gp ho
  refine ⟨?_,ho,?_⟩
  ·rw [wAX (by omega) (by omega),show (k:Int) - 1=((k - 1:Nat):Int) by omega]
   exact wDE (by omega)
  ·rw [tAt,if_pos h]
   unfold bc
   rw [wAX (x:=tAt p l x k + gd l.Loops k) (by omega) (by omega),wAX (x:=(((gd l.Bouts (k - 1)).length:Int) - 5) * p.Spare) (by omega) (by omega),wAX (x:=(5 - (wIe (gd l.Bouts (k - 1)):Int)) * p.Loop) (by omega) (by omega),wAX (x:=(((gd l.Bouts (k - 1)).length:Int) - 5) * p.Spare + (5 - (wIe (gd l.Bouts (k - 1)):Int)) * p.Loop) (by omega) (by omega),wAX (by omega) (by omega)]
 ·rw [tAt,if_neg h,wAX (by omega) (by omega),Int.add_zero]
theorem wJY (p:wAL) (l:wAM) (x:Int) (k:Nat):(nB (k + 1)).map (fun i=>tAt p l x (i + 1))=(nB k).map (fun i=>tAt p l x (i + 1)) ++ [tAt p l x (k + 1)]:=by
 rw [nf,nL]
 rfl
theorem wIg (p:wAL) (a:wAM):∀ (l:List wAM) (x:Int),wGN p (l ++ [a]) x=wGN p l x ++ wPN p a (wIf p l x)/\wIf p (l ++ [a]) x=wLh p a (wIf p l x)
 | [],x=>by simp [wGN,wIf]
 | b :: l,x=>by
  have:=wIg p a l (wLh p b x)
  exact ⟨by rw [na,wGN,wGN,this.1,nV];rfl,this.2⟩
theorem wJZ {p:wAL} (gp:wGu p) {t:wAN}:∀ (l:List wAM) (x:Int),(∀ a ∈ l,wMH p t a)->x <= wIf p l x/\wIf p l x <= x + 69000 * (l.length:Int)
 | [],x,_=>by simp [wIf]
 | a :: l,x,h=>by
  have h1:=wNa gp (h a (by simp)) x
  have h2:=wJZ gp l (wLh p a x) fun b hb=>h b (by simp [hb])
  rw [wIf]
  simp only [nD]
  omega
def after (r:wAZ):List (List Int):=r.Teams.map fun t=>wGN r.Rules t.Legs r.Start
theorem wGv {p:wAL} (gp:wGu p) {t:wAN}:∀ (l:List wAM) (x:Int),(∀ a ∈ l,wMH p t a)->(wGN p l x).length <= 5 * l.length
 | [],x,_=>by simp [wGN]
 | a :: l,x,h=>by
  have h1:=(h a (by simp)).le
  have h2:=wGv gp l (wLh p a x) fun b hb=>h b (by simp [hb])
  have:=gp.laps
  rw [wGN,nH]
  simp only [wPN,nK,ng,nD]
  omega
theorem wNG {r:wAZ} (g:wKD r):wDP r=some (some ⟨r,after r⟩,0):=by
 unfold wDP
 rw [wPM g,hD,if_pos rfl]
 have hn:=g.n;have hs:=g.start
 rw [wDu (S:=List (List Int)) (n:=r.Teams.length) (fun k=>(r.Teams.take k).map fun t=>wGN r.Rules t.Legs r.Start) (s0:=[]) rfl (by omega) fun k hk=>?_]
 ·rw [hD,nZ]
  rfl
 ·have gt:=g.team _ (wCt hk)
  have hleg:=gt.legs;have hc:=g.rules.n
  rw [wDE hk,hD]
  rw [wDu (S:=Int × List Int) (n:=(gd r.Teams k).Legs.length) (fun j=>(wIf r.Rules ((gd r.Teams k).Legs.take j) r.Start,wGN r.Rules ((gd r.Teams k).Legs.take j) r.Start)) (s0:=(r.Start,[])) rfl (by omega) fun j hj=>?_]
  ·simp only [hD,nZ]
   have hlen:=wGv g.rules (gd r.Teams k).Legs r.Start gt.leg
   rw [wDZ (by simp;omega),hD,wGW hk,nL]
   rfl
  ·have gl:=gt.leg _ (wCt hj)
   have hE:=wJZ g.rules ((gd r.Teams k).Legs.take j) r.Start fun a ha=>gt.leg a (nl ha)
   have hL:=wGv g.rules ((gd r.Teams k).Legs.take j) r.Start fun a ha=>gt.leg a (nl ha)
   rw [nM] at hE hL
   have hx:0 <= wIf r.Rules ((gd r.Teams k).Legs.take j) r.Start/\wIf r.Rules ((gd r.Teams k).Legs.take j) r.Start <= 1000000:=by omega
   generalize hX:wIf r.Rules ((gd r.Teams k).Legs.take j) r.Start=X at hx
   generalize hY:wGN r.Rules ((gd r.Teams k).Legs.take j) r.Start=Y at hL
   have hlap:=g.rules.laps;have hle:=gl.le
   simp only
   rw [wDE hj,hD]
   rw [wDu (S:=Int × List Int) (n:=(gd (gd r.Teams k).Legs j).Loops.length) (fun i=>(tAt r.Rules (gd (gd r.Teams k).Legs j) X i,Y ++ (nB i).map fun q=>tAt r.Rules (gd (gd r.Teams k).Legs j) X (q + 1))) (s0:=(X,Y)) (by simp [tAt]) (by omega) fun i hi=>?_]
   ·simp only [hD]
    rw [wGW hj,(wIg _ _ _ _).1,(wIg _ _ _ _).2,hX,hY]
    rfl
   ·obtain ⟨l1,l2⟩:=wQo g.rules gl hx hi
    simp only
    rw [wDE hi,hD]
    by_cases h0:0 < i
    ·obtain ⟨e1,e2,e3⟩:=l1 h0
     rw [if_pos (by omega),e1,hD,wOh e2]
     simp only [hD]
     rw [e3,wDZ (by simp;omega),hD,wJY,nV]
    ·rw [if_neg (by omega),l2 h0,wDZ (by simp;omega),hD,wJY,nV]
def wCr (r:wAZ):wAk:=⟨(r.Rules.Classes.length:Int) * r.Rules.Laps,r.Teams.map (·.Bib),after r⟩
theorem wQp {r:wAZ} (g:wKD r):wCe ⟨r,after r⟩=some (wCr r):=by
 unfold wCe
 have hn:=g.n
 simp only
 rw [wDu (S:=List Int × List (List Int)) (n:=r.Teams.length) (fun k=>((r.Teams.take k).map (·.Bib),(r.Teams.take k).map fun t=>wGN r.Rules t.Legs r.Start)) (s0:=([],[])) rfl (by omega) fun k hk=>?_]
 ·simp only [hD,nZ]
  have h1:=g.rules.n;have h2:=g.rules.laps
  have h3:0 <= (r.Rules.Classes.length:Int) * r.Rules.Laps:=kJ (by omega) (by omega)
  have h4:(r.Rules.Classes.length:Int) * r.Rules.Laps <= 4 * 5:=kK (by omega) h2.2 (by omega) (by omega)
  rw [wAX (by omega) (by omega)]
  rfl
 ·have gt:=g.team _ (wCt hk)
  have hlen:=wGv g.rules (gd r.Teams k).Legs r.Start gt.leg
  have hc:=g.rules.n;have hleg:=gt.legs
  simp only
  rw [wDE hk,hD,wDZ (by simp;omega),hD]
  unfold after
  rw [wDE (by simpa using hk),hD,wHe _ hk]
  unfold wBH
  rw [wDZ (by simp;omega)]
  simp only [hD,kF]
  rw [wDZ (by simp;omega),hD,wGW hk,nL,nL]
  rfl
def pick (L:Nat):List Int->Nat->List Int
 | [],_=>[]
 | a :: r,k=>if (k + 1) % L=0 then a :: pick L r (k + 1) else pick L r (k + 1)
theorem wKi (L:Nat):∀ (a b:List Int) (k:Nat),pick L (a ++ b) k=pick L a k ++ pick L b (k + a.length)
 | [],b,k=>by simp [pick]
 | x :: a,b,k=>by
  have:=wKi L a b (k + 1)
  rw [na,pick,pick,this,show k + 1 + a.length=k + (x :: a).length by simp;omega]
  split <;> simp
theorem wJa {L:Nat}:∀ (a:List Int) (k:Nat),k % L + a.length < L->pick L a k=[]
 | [],_,_=>rfl
 | x :: a,k,h=>by
  simp only [nD] at h
  have h1:(k + 1) % L=k % L + 1:=by
   rw [Nat.add_mod,Nat.mod_eq_of_lt (show 1 < L by omega),Nat.mod_eq_of_lt (by omega)]
  rw [pick,if_neg (by omega)]
  exact wJa a (k + 1) (by omega)
theorem wPP {p:wAL} {l:wAM} {L:Nat} (hL:p.Laps=L) (h0:0 < L) (hle:l.Loops.length <= L) (x:Int) {k:Nat} (hk:k % L=0):pick L (wPN p l x) k=if (l.Loops.length:Int)=p.Laps then [wLh p l x] else []:=by
 unfold wPN
 by_cases h:l.Loops.length=L
 ·rw [if_pos (by omega)]
  obtain ⟨n,hn⟩:∃ n,l.Loops.length=n + 1:=⟨L - 1,by omega⟩
  rw [hn,wJY,wKi,wJa _ _ (by simp;omega),kF]
  simp only [nK,ng,pick]
  rw [if_pos (by rw [show k + n + 1=k + L by omega,Nat.add_mod_right];exact hk)]
  unfold wLh
  rw [hn]
 ·rw [if_neg (by omega)]
  exact wJa _ _ (by simp;omega)
def wQq (p:wAL):List wAM->Prop
 | []=>True
 | l :: r=>((l.Loops.length:Int)=p.Laps \/ r=[])/\wQq p r
theorem wNH {p:wAL}:∀ {l:List wAM},(∀ k,k + 1 < l.length->((gd l k).Loops.length:Int)=p.Laps)->wQq p l
 | [],_=>trivial
 | a :: l,h=>by
  refine ⟨?_,wNH fun k hk=>h (k + 1) (by simp at hk ⊢;omega)⟩
  cases l with
  | nil=>exact .inr rfl
  | cons b l=>exact .inl (h 0 (by simp))
theorem wLX {p:wAL} {L:Nat} (hL:p.Laps=L) (h0:0 < L):∀ (l:List wAM) (x:Int) (k:Nat),wQq p l->(∀ a ∈ l,a.Loops.length <= L)->k % L=0->pick L (wGN p l x) k=ends p l x
 | [],_,_,_,_,_=>rfl
 | a :: l,x,k,hf,hle,hk=>by
  rw [wGN,wKi,wPP hL h0 (hle a (by simp)) x hk,ends]
  by_cases h:(a.Loops.length:Int)=p.Laps
  ·have ha:(wPN p a x).length=L:=by unfold wPN;simp;omega
   rw [if_pos h,if_pos h,wLX hL h0 l _ _ hf.2 (fun b hb=>hle b (by simp [hb])) (by rw [ha,Nat.add_mod_right];exact hk)]
   rfl
  ·have hr:l=[]:=hf.1.resolve_left h
   subst hr
   rw [if_neg h,if_neg h]
   rfl
theorem wNb {r:wAZ} (g:wKD r) {k:Nat} (hk:k < r.Teams.length):wCw ⟨r,after r⟩ (k:Int)=some (ends r.Rules (gd r.Teams k).Legs r.Start):=by
 unfold wCw after
 have gt:=g.team _ (wCt hk)
 have hlen:=wGv g.rules (gd r.Teams k).Legs r.Start gt.leg
 have hc:=g.rules.n;have hleg:=gt.legs;have hlap:=g.rules.laps
 obtain ⟨L,hL⟩:∃ L:Nat,r.Rules.Laps=L:=⟨r.Rules.Laps.toNat,by omega⟩
 simp only
 rw [wDE (by simpa using hk),hD,wHe _ hk]
 have hp:=wLX hL (by omega) (gd r.Teams k).Legs r.Start 0 (wNH gt.full) (fun a ha=>by have:=(gt.leg a ha).le;omega) (by simp)
 rw [<- hp]
 generalize wGN r.Rules (gd r.Teams k).Legs r.Start=X at hlen
 rw [hL]
 have key:∀ (m k:Nat) (o:List Int),k + m=X.length->o.length <= k->forN' (fun k31 l27 =>
  (idx X (↑k31:Int)).bind fun x55 =>
  (rem (↑(k31 + 1):Int) (L:Int)).bind fun x63 =>
  if x63=0 then
   (app 8 l27 [x55]).bind fun x73 =>
   some x73
  else
   some l27) m k o=some (o ++ pick L (X.drop k) k):=by
  intro m
  induction m with
  | zero=>intro k o hk _;rw [kI (by omega)];simp [forN',pick]
  | succ m ih =>
   intro k o hk ho
   have hlt:k < X.length:=by omega
   have hr:rem (↑(k + 1):Int) (L:Int)=some (((k + 1) % L:Nat):Int):=by
    unfold rem
    rw [if_neg (by omega)]
    rfl
   rw [wOR hlt,pick,forN',wDE hlt,hD,hr,hD]
   by_cases h:(k + 1) % L=0
   ·rw [if_pos (by omega),if_pos h,wDZ (by simp;omega),hD]
    simp only
    rw [ih (k + 1) _ (by omega) (by simp;omega),nV]
    rfl
   ·rw [if_neg (by omega),if_neg h]
    simp only
    rw [ih (k + 1) _ (by omega) (by omega)]
 rw [wEv (by omega),key X.length 0 [] (by omega) (by simp),hD]
 simp
def wFN (r:wAZ):List (List Int):=r.Teams.map fun t=>ends r.Rules t.Legs r.Start
theorem wPQ {r:wAZ} (g:wKD r):wDx r=some (wFN r,0):=by
 unfold wDx
 rw [wNG g]
 simp only [hD,if_true]
 have hn:=g.n
 rw [wDu (S:=List (List Int)) (n:=r.Teams.length) (fun k=>(r.Teams.take k).map fun t=>ends r.Rules t.Legs r.Start) (s0:=[]) rfl (by omega) fun k hk=>?_]
 ·rw [hD,nZ]
  rfl
 ·rw [wNb g hk,hD,wDZ (by simp;omega),hD,wGW hk,nL]
  rfl
theorem wHC {n k:Nat} (f:Nat->Int) (h:k < n):gd ((nB n).map f) k=f k:=by
 have h1:=wBK (xs:=(nB n).map f) (k:=k) (by simpa using h)
 rw [List.getElem?_map,List.getElem?_range h] at h1
 exact (Option.some.inj h1).symm
def wPz (T:List (List Int)) (x:Nat) (v:Int):Nat->Nat
 | 0=>0
 | m + 1=>wPz T x v m + if x < (gd T m).length/\gd (gd T m) x < v then 1 else 0
theorem wOi (T:List (List Int)) (x:Nat) (v:Int):∀ m,wPz T x v m <= m
 | 0=>nX _
 | m + 1=>by
  have:=wOi T x v m
  rw [wPz]
  split <;> omega
def plc (T:List (List Int)) (x:Nat) (k:Nat):Int:=if x < (gd T k).length then 1 + (wPz T x (gd (gd T k) x) T.length:Int) else 0
theorem wRv {α:Type} [Inhabited α] {l:List α} {k:Nat} {x:α} (h:k < l.length):gd (l.set k x) k=x:=by
 rw [wLP h h,if_pos rfl]
theorem wNc {r:wAZ} (g:wKD r) {x:Nat} (hx:x < r.Rules.Classes.length):wDB r (x:Int)=some ((nB (wFN r).length).map (plc (wFN r) x),0):=by
 unfold wDB
 have hc:=g.rules.n;have hn:=g.n
 have hl:(wFN r).length=r.Teams.length:=by simp [wFN]
 rw [wPQ g,hD];simp only
 rw [if_pos trivial,wAX (by omega) (by omega),wIv,hD,wDW (by omega) (by omega),if_pos rfl]
 generalize hT:wFN r=T at hl
 have hz:mkz 8 (T.length:Int) (0:Int)=some (nA T.length 0):=by
  unfold mkz
  rw [if_pos (by omega)]
  rfl
 rw [hz,hD,wDu (fun m=>(nB T.length).map fun k=>if k < m then plc T x k else 0) (s0:=nA T.length (0:Int)) ?_ (by omega) fun i hi=>?_]
 ·rw [hD]
  congr 2
  exact kP fun k hk=>by rw [if_pos (nT.1 hk)]
 ·refine wLO (by simp) fun k hk=>?_
  have hk:k < T.length:=by simpa using hk
  rw [wHC _ hk,if_neg (by omega),wMB (by simpa using hk),kH]
 ·have hlen:∀ m:Nat,((nB T.length).map fun k=>if k < m then plc T x k else 0).length=T.length:=fun m=>by simp
  have hset:∀ v,v=plc T x i->((nB T.length).map fun k=>if k < i then plc T x k else 0).set i v=(nB T.length).map fun k=>if k < i + 1 then plc T x k else 0:=fun v hv=>by
   refine wLO (by simp) fun k hk=>?_
   have hk:k < T.length:=by simpa using hk
   rw [wLP (by simpa using hi) (by simpa using hk),wHC _ hk,wHC _ hk]
   by_cases h1:k=i
   ·subst h1
    rw [if_pos rfl,if_pos (by omega),hv]
   ·rw [if_neg h1]
    by_cases h2:k < i
    ·rw [if_pos h2,if_pos (by omega)]
    ·rw [if_neg h2,if_neg (by omega)]
  rw [wDE hi,hD]
  by_cases h1:x < (gd T i).length
  ·rw [if_neg (by omega),wEB (by omega) (by rw [hlen];omega),hD,wDu (fun m=>((nB T.length).map fun k=>if k < i then plc T x k else 0).set i (1 + (wPz T x (gd (gd T i) x) m:Int))) (s0:=((nB T.length).map fun k=>if k < i then plc T x k else 0).set i 1) rfl (by omega) fun j hj=>?_]
   ·rw [hD,hset _ (by unfold plc;rw [if_pos h1])]
   ·have hle:=wOi T x (gd (gd T i) x) j
    rw [wDE hj,hD,wPz]
    by_cases h2:x < (gd T j).length
    ·rw [if_pos (by omega),wDE h2,hD,wDE h1,hD]
     by_cases h3:gd (gd T j) x < gd (gd T i) x
     ·rw [if_pos h3,if_pos ⟨h2,h3⟩,wEB (by omega) (by rw [List.length_set,hlen];omega),hD,wRv (by simpa using hi),List.set_set,wAX (by omega) (by omega)]
      rfl
     ·rw [if_neg h3,if_neg fun h=>h3 h.2]
      rfl
    ·rw [if_neg (by omega),if_neg fun h=>h2 h.1]
     rfl
  ·rw [if_pos (by omega),<- hset 0 (by unfold plc;rw [if_neg h1])]
   congr 1
   refine wLO (by simp) fun k hk=>?_
   have hk:k < T.length:=by simpa using hk
   rw [wLP (by simpa using hi) (by simpa using hk),wHC _ hk]
   by_cases e:k=i
   ·subst e
    rw [if_neg (by omega),if_pos rfl]
   ·rw [if_neg e]
theorem wQr {r:wAZ} (g:wKD r):wES r=some (wCr r,0):=by
 unfold wES
 rw [wNG g]
 simp only [hD,if_true]
 rw [wQp g,hD]
theorem wOj {a b:Int} (h0:0 <= a) (hb:0 < b):∃ x,rem a b=some x/\0 <= x/\x < b:=by
 refine ⟨a.tmod b,if_neg (by omega),?_,?_⟩
 ·rw [nw h0];exact Int.emod_nonneg _ (by omega)
 ·rw [nw h0];exact Int.emod_lt_of_pos _ hb
theorem wMK (x:Int):0 <= wGc x:=by unfold wGc;omega
theorem wQs (x:Int):wGc x < 4294967296:=by unfold wGc;omega
theorem w64u (x:Int):w64 (wGc x)=wGc x:=by
 have:=wMK x
 have:=wQs x
 exact wAX (by omega) (by omega)
theorem wPR (a:Int) {b:Int} (hb:b ≠ 0):∃ x,quo a b=some x:=⟨_,if_neg hb⟩
theorem wOk (d:wAC) (n:Int) (h0:0 <= d.next) (h1:d.next <= 1000000):∃ x d',wAQ d n=some (x,d')/\0 <= d'.next/\d'.next <= d.next + 1/\0 <= x/\(x < n \/ (n <= 1/\x=0)):=by
 unfold wAQ
 by_cases hn:n <= 1
 ·exact ⟨0,d,by rw [if_pos hn],h0,by omega,by omega,.inr ⟨hn,rfl⟩⟩
 rw [if_neg hn]
 by_cases hl:(d.bytes.length:Int)=0
 ·exact ⟨0,d,by rw [if_pos hl],h0,by omega,by omega,.inl (by omega)⟩
 rw [if_neg hl]
 obtain ⟨r,e1,r0,r1⟩:=wOj h0 (show (0:Int) < d.bytes.length by omega)
 obtain ⟨b,e2⟩:∃ b,idx d.bytes r=some b:=by
  unfold idx
  rw [if_pos r0,kE (by omega)]
  exact ⟨_,rfl⟩
 obtain ⟨q,e3⟩:=wPR d.next (b:=d.bytes.length) hl
 obtain ⟨st,e4,_,_⟩:=wOj (wMK ((wGc ((wGc ((wGc (d.state * 45)) + (wGc b))) + (wGc (77 * (wGc q))))) + 1)) (b:=65519) (by decide)
 rw [e1,hD,e2,hD,e3,hD,e4,hD,wAX (x:=d.next + 1) (by omega) (by omega)]
 have fin:∀ z:Int,∃ x d',((rem (w64 (wGc z)) n).bind fun x=>some (x,(⟨d.bytes,d.next + 1,st⟩:wAC)))=some (x,d')/\0 <= d'.next/\d'.next <= d.next + 1/\0 <= x/\(x < n \/ (n <= 1/\x=0)):=by
  intro z
  obtain ⟨x,e5,x0,x1⟩:=wOj (a:=w64 (wGc z)) (b:=n) (by rw [w64u];exact wMK z) (by omega)
  exact ⟨x,_,by rw [e5];rfl,by show 0 <= d.next + 1;omega,by show d.next + 1 <= _;omega,x0,.inl x1⟩
 by_cases c1:wGc q=0
 ·rw [if_pos c1]
  by_cases c2:n <= 256
  ·rw [if_pos c2];exact fin _
  ·rw [if_neg c2];exact fin _
 ·rw [if_neg c1];exact fin _
theorem wQt (d:wAC) (a b:Int) (h0:0 <= d.next) (h1:d.next <= 1000000) (ha:-1000000 <= a) (hab:a <= b) (hb:b <= 1000000):∃ x d',wAY d a b=some (x,d')/\0 <= d'.next/\d'.next <= d.next + 1/\a <= x/\x <= b:=by
 unfold wAY
 rw [wAX (x:=b - a) (by omega) (by omega),wAX (x:=b - a + 1) (by omega) (by omega)]
 obtain ⟨x,d',e,n0,n1,x0,x1⟩:=wOk d (b - a + 1) h0 h1
 refine ⟨a + x,d',?_,n0,n1,by omega,by omega⟩
 rw [e,hD]
 simp only
 rw [wAX (by omega) (by omega)]
structure wLY (p:wAL) (t:wAN) (l:wAM):Prop where
 le:(l.Loops.length:Int) <= p.Laps
 bouts:l.Bouts.length=l.Loops.length - 1
 loops:∀ n ∈ l.Loops,1 <= n/\n <= 1100
 skier:0 <= l.Skier/\l.Skier < t.Classes.length
 ok:∀ b ∈ l.Bouts,okB b
structure GoodS (p:wAL) (t:wAN):Prop where
 bib:1 <= t.Bib/\t.Bib <= 999
 n:1 <= t.Classes.length/\t.Classes.length <= 8
 cls:∀ c ∈ t.Classes,0 <= c/\c <= 3
 legs:t.Legs.length <= p.Classes.length
 full:∀ k,k + 1 < t.Legs.length->((gd t.Legs k).Loops.length:Int)=p.Laps
 leg:∀ l ∈ t.Legs,wLY p t l
theorem GoodS.toT {p:wAL} {t:wAN} (g:GoodS p t):wQm p t :=
 ⟨g.bib,g.n,g.cls,g.legs,g.full,fun l hl=>⟨(g.leg l hl).le,(g.leg l hl).bouts,fun n hn=>by have:=(g.leg l hl).loops n hn;omega,(g.leg l hl).skier,(g.leg l hl).ok⟩⟩
def wCQ (d:wAC) (n:Int):Prop:=0 <= d.next/\d.next <= n
theorem wIJ {d:wAC} {N:Int} (h:wCQ d N) (hN:N <= 1000000) (n:Int):∃ x d',wAQ d n=some (x,d')/\wCQ d' (N + 1)/\0 <= x/\(x < n \/ (n <= 1/\x=0)):=by
 obtain ⟨x,d',e,a,b,c⟩:=wOk d n h.1 (by have:=h.2;omega)
 exact ⟨x,d',e,⟨a,by have:=h.2;omega⟩,c⟩
theorem wJb {d:wAC} {N:Int} (h:wCQ d N) (hN:N <= 1000000) {a b:Int} (ha:-1000000 <= a) (hab:a <= b) (hb:b <= 1000000):∃ x d',wAY d a b=some (x,d')/\wCQ d' (N + 1)/\a <= x/\x <= b:=by
 obtain ⟨x,d',e,c,c2,c3⟩:=wQt d a b h.1 (by have:=h.2;omega) ha hab hb
 exact ⟨x,d',e,⟨c,by have:=h.2;omega⟩,c3⟩
theorem wLZ {d:wAC} {N:Int} (h:wCQ d N) (hN:N <= 1000000) (n:Int):∃ x d',wAe d n=some (x,d')/\wCQ d' (N + 1):=by
 obtain ⟨x,d',e,c,_⟩:=wIJ h hN n
 exact ⟨decide (x=0),d',by unfold wAe;rw [e];rfl,c⟩
theorem wHf (b:Bool):∀ (l:List Bool) (k:Nat),wEq (l ++ [b]) k=(wEq l k).bind fun m=>if m=5 then none else some (m + if b=true then 1 else 0)
 | [],k=>rfl
 | c :: l,k=>by
  rw [na,wEq,wEq]
  split
  ·rfl
  ·exact wHf b l _
theorem wKL:∀ (l:List Bool) (k m:Nat),wEq l k=some m->m <= k + l.length
 | [],k,m,h=>by cases h;simp
 | b :: l,k,m,h=>by
  rw [wEq] at h
  split at h
  ·cases h
  ·have:=wKL l _ m h
   simp only [nD]
   split at this <;> omega
theorem wPS {d:wAC} {N:Int} (h:wCQ d N) (hN:N <= 900000):∃ l d',wBT d=some (l,d')/\wCQ d' (N + 18)/\okB l:=by
 unfold wBT
 obtain ⟨⟨l,d'⟩,e,z1,z2⟩:=wIy (S:=List Int × Int × Int × List Bool × Int) (B:=List Bool × wAC) (body:=fun (l31,x34,x35,l36,x40) =>
  if x40 < 5 then
   if (↑l36.length:Int) < 5 then
    (wAe (⟨l31,x34,x35⟩:wAC) 4).bind fun (x61,x62) =>
    (app 1 l36 [!x61]).bind fun x80 =>
    if x61=true then
     some (.inl (x62.bytes,x62.next,x62.state,x80,x40))
    else
     some (.inl (x62.bytes,x62.next,x62.state,x80,w64 (x40 + 1)))
   else
    if (↑l36.length:Int) < 8 then
     (wAe (⟨l31,x34,x35⟩:wAC) 6).bind fun (x112,x113) =>
     if x112=true then
      esc (some (l36,x113))
     else
      (wAe x113 4).bind fun (x132,x133) =>
      (app 1 l36 [!x132]).bind fun x151 =>
      if x132=true then
       some (.inl (x133.bytes,x133.next,x133.state,x151,x40))
      else
       some (.inl (x133.bytes,x133.next,x133.state,x151,w64 (x40 + 1)))
    else
     esc (some (l36,(⟨l31,x34,x35⟩:wAC)))
  else
   esc (some (l36,(⟨l31,x34,x35⟩:wAC))))
  (fun i s=>wCQ ⟨s.1,s.2.1,s.2.2.1⟩ (N + 2 * (i:Int))/\s.2.2.2.1.length=i/\∃ m:Nat,wEq s.2.2.2.1 0=some m/\s.2.2.2.2=m) (fun b=>wCQ b.2 (N + 18)/\okB b.1) 8
  (by
   rintro i ⟨B,x,s,l,t⟩ hi ⟨h1,h2,m,h3,h4⟩
   simp only at h1 h2 h3 h4 ⊢
   subst h4
   have hm:=(wII l 0 m (by omega) h3).2
   have hml:=wKL l 0 m h3
   have done:(5 <= l.length)->wCQ ⟨B,x,s⟩ (N + 18)/\okB l:=fun h5=>⟨⟨h1.1,by have:=h1.2;omega⟩,h5,by omega,m,h3⟩
   have grow:∀ (c:Bool) (d2:wAC),wCQ d2 (N + 2 * ((i + 1:Nat):Int))->m < 5->i < 8 ->
     ∃ s',(if c=true then (some (.inl (d2.bytes,d2.next,d2.state,l ++ [!c],(m:Int))):Option ((List Int × Int × Int × List Bool × Int) ⊕ (List Bool × wAC))) else some (.inl (d2.bytes,d2.next,d2.state,l ++ [!c],w64 ((m:Int) + 1))))=some (.inl s')/\wCQ ⟨s'.1,s'.2.1,s'.2.2.1⟩ (N + 2 * ((i + 1:Nat):Int))/\s'.2.2.2.1.length=i + 1/\∃ m':Nat,wEq s'.2.2.2.1 0=some m'/\s'.2.2.2.2=m':=by
    intro c d2 hd h5 h8
    cases c with
    | true=>exact ⟨_,if_pos rfl,hd,by simp [h2],m,by show wEq (l ++ _) 0=_;rw [wHf,h3,hD,if_neg (by omega)];rfl,rfl⟩
    | false=>exact ⟨_,if_neg (by decide),hd,by simp [h2],m + 1,by show wEq (l ++ _) 0=_;rw [wHf,h3,hD,if_neg (by omega)];rfl,by show w64 _=_;rw [wAX (by omega) (by omega)];omega⟩
   by_cases c1:(m:Int) < 5
   ·rw [if_pos c1]
    by_cases c2:(l.length:Int) < 5
    ·rw [if_pos c2]
     left
     refine ⟨by omega,?_⟩
     obtain ⟨c,d2,e1,g1⟩:=wLZ h1 (by omega) 4
     rw [e1,hD]
     simp only
     rw [wDZ (by simp;omega),hD]
     exact grow c d2 ⟨g1.1,by have:=g1.2;omega⟩ (by omega) (by omega)
    ·rw [if_neg c2]
     by_cases c3:(l.length:Int) < 8
     ·rw [if_pos c3]
      obtain ⟨c,d2,e1,g1⟩:=wLZ h1 (by omega) 6
      rw [e1,hD]
      simp only
      cases c with
      | true =>
       right
       rw [if_pos rfl]
       refine ⟨_,rfl,⟨g1.1,by have:=g1.2;simp only;omega⟩,(done (by omega)).2⟩
      | false =>
       left
       refine ⟨by omega,?_⟩
       rw [if_neg (by decide)]
       obtain ⟨c,d3,e2,g2⟩:=wLZ g1 (by omega) 4
       rw [e2,hD]
       simp only
       rw [wDZ (by simp;omega),hD]
       exact grow c d3 ⟨g2.1,by have:=g2.2;omega⟩ (by omega) (by omega)
     ·rw [if_neg c3]
      right
      exact ⟨_,rfl,done (by omega)⟩
   ·rw [if_neg c1]
    right
    exact ⟨_,rfl,done (by omega)⟩) (s0:=(d.bytes,d.next,d.state,[],0)) ⟨⟨h.1,by have:=h.2;simp only;omega⟩,rfl,0,rfl,rfl⟩ (by omega)
 exact ⟨l,d',e,z1,z2⟩
abbrev SL:=List Int × List (List Bool) × List Int × Int × Int × Int × Int
abbrev SB:=List Int × Int × Int × List wAM × Int
abbrev SE:=List Int × Int × Int × List wAM
def legB (p:wAL) (pace sk:Int) (legs:List wAM):SL->Option (SL ⊕ (SB ⊕ SE)):=fun (l1152,l1156,l1161,x1164,x1165,x1166,x1167) =>
 if x1167 < p.Laps then
 if 0 < x1166 then
 (wAQ (⟨l1161,x1164,x1165⟩:wAC) 200).bind fun (x1233,x1234) =>
 (app 8 l1152 [w64 (pace + x1233)]).bind fun x1253 =>
 if 0 < x1167 then
 (wBT x1234).bind fun (x1315,x1316) =>
 (app 24 l1156 [x1315]).bind fun x1344 =>
 some (.inl (x1253,x1344,x1316.bytes,x1316.next,x1316.state,w64 (x1166 - 1),w64 (x1167 + 1)))
 else
 some (.inl (x1253,l1156,x1234.bytes,x1234.next,x1234.state,w64 (x1166 - 1),w64 (x1167 + 1)))
 else
 esc ((app 56 legs [(⟨sk,l1152,l1156⟩:wAM)]).bind fun x1413 =>
 some (.inl (l1161,x1164,x1165,x1413,x1166)))
 else
 esc ((app 56 legs [(⟨sk,l1152,l1156⟩:wAM)]).bind fun x1464 =>
 some (.inl (l1161,x1164,x1165,x1464,x1166)))
def wOl (p:wAL) (pace n:Int):SB->Option (SB ⊕ SE):=fun (l1029,x1032,x1033,l1034,x1039) =>
 if 0 < x1039 then
 (wAQ (⟨l1029,x1032,x1033⟩:wAC) n).bind fun (x1064,x1065) =>
 iter (legB p pace x1064 l1034) big ([],[],x1065.bytes,x1065.next,x1065.state,x1039,0)
 else
 esc (some (l1029,x1032,x1033,l1034))
theorem wPT {p:wAL} {L:Nat} (hL:p.Laps=L) (h0:0 < L) (h3:L <= 3) {pace:Int} (hp:300 <= pace/\pace <= 900) {t:wAN} {sk:Int} (hsk:0 <= sk/\sk < t.Classes.length) {legs:List wAM} (hlegs:legs.length <= 10) {d:wAC} {N:Int} (h:wCQ d N) (hN:N <= 800000) {T:Nat} (hT:0 < T) (hT2:T <= 100) :
  ∃ (s':SB) (l:wAM) (i:Nat),iter (S:=SL) (B:=SB ⊕ SE) (legB p pace sk legs) big ([],[],d.bytes,d.next,d.state,(T:Int),0)=some (.inl s')/\wCQ ⟨s'.1,s'.2.1,s'.2.2.1⟩ (N + 60)/\s'.2.2.2.1=legs ++ [l]/\wLY p t l/\l.Loops.length=i/\i <= L/\0 < i/\i <= T/\s'.2.2.2.2=((T - i:Nat):Int)/\(i=L \/ i=T):=by
 obtain ⟨b,e,s',l,i,rfl,z⟩:=wIy (S:=SL) (B:=SB ⊕ SE) (body:=legB p pace sk legs)
  (fun i s=>wCQ ⟨s.2.2.1,s.2.2.2.1,s.2.2.2.2.1⟩ (N + 20 * (i:Int))/\s.1.length=i/\s.2.1.length=i - 1/\(∀ n ∈ s.1,1 <= n/\n <= 1100)/\(∀ b ∈ s.2.1,okB b)/\i <= T/\i <= L/\s.2.2.2.2.2.1=((T - i:Nat):Int)/\s.2.2.2.2.2.2=(i:Int))
  (fun b=>∃ s' l i,b=.inl s'/\wCQ ⟨s'.1,s'.2.1,s'.2.2.1⟩ (N + 60)/\s'.2.2.2.1=legs ++ [l]/\wLY p t l/\l.Loops.length=i/\i <= L/\0 < i/\i <= T/\s'.2.2.2.2=((T - i:Nat):Int)/\(i=L \/ i=T)) L
  (by
   rintro i ⟨lo,bo,B,x,s,td,lp⟩ hi ⟨h1,h2,h4,h5,h6,h7,h8,h9,h10⟩
   unfold legB
   simp only at h1 h2 h4 h5 h6 h9 h10 ⊢
   subst h9 h10
   have h1b:x <= N + 20 * (i:Int):=h1.2
   have done:0 < i->(i=L \/ i=T)->∃ b,(esc ((app 56 legs [(⟨sk,lo,bo⟩:wAM)]).bind fun x1413=>(some (.inl (B,x,s,x1413,((T - i:Nat):Int))):Option (SB ⊕ SE))):Option ((SL) ⊕ (SB ⊕ SE)))=some (.inr b)/\∃ s' l i,b=.inl s'/\wCQ ⟨s'.1,s'.2.1,s'.2.2.1⟩ (N + 60)/\s'.2.2.2.1=legs ++ [l]/\wLY p t l/\l.Loops.length=i/\i <= L/\0 < i/\i <= T/\s'.2.2.2.2=((T - i:Nat):Int)/\(i=L \/ i=T):=by
    intro hi0 hiL
    rw [wDZ (by simp;omega),hD]
    exact ⟨_,rfl,_,⟨sk,lo,bo⟩,i,rfl,⟨h1.1,by show x <= _;omega⟩,rfl,⟨by simp only;omega,by simp only;omega,h5,hsk,h6⟩,h2,h8,hi0,h7,rfl,hiL⟩
   rw [hL]
   by_cases c1:(i:Int) < (L:Int)
   ·rw [if_pos c1]
    by_cases c2:(0:Int) < ((T - i:Nat):Int)
    ·rw [if_pos c2]
     left
     refine ⟨by omega,?_⟩
     obtain ⟨n,d2,e1,g1,n0,n1⟩:=wIJ h1 (by omega) 200
     rw [e1,hD]
     simp only
     rw [wAX (x:=pace + n) (by omega) (by omega),wDZ (by simp;omega),hD,wAX (x:=((T - i:Nat):Int) - 1) (by omega) (by omega),wAX (x:=(i:Int) + 1) (by omega) (by omega)]
     have hlo:∀ q ∈ lo ++ [pace + n],1 <= q/\q <= 1100:=fun q hq=>by
      rcases nJ.1 hq with hq | hq
      ·exact h5 q hq
      ·simp at hq
       omega
     by_cases c3:(0:Int) < (i:Int)
     ·rw [if_pos c3]
      obtain ⟨f,d3,e2,g2,g3⟩:=wPS g1 (by omega)
      rw [e2,hD]
      simp only
      rw [wDZ (by simp;omega),hD]
      refine ⟨_,rfl,⟨g2.1,by have:=g2.2;simp only;omega⟩,by simp [h2],by clear done;simp only [nH,nD,nI];omega,hlo,fun b hb=>?_,by omega,by omega,by simp only;omega,by simp only;omega⟩
      rcases nJ.1 hb with hb | hb
      ·exact h6 b hb
      ·simp at hb
       subst hb
       exact g3
     ·rw [if_neg c3]
      exact ⟨_,rfl,⟨g1.1,by have:=g1.2;simp only;omega⟩,by simp [h2],by simp only;omega,hlo,h6,by omega,by omega,by simp only;omega,by simp only;omega⟩
    ·rw [if_neg c2]
     right
     exact done (by omega) (by omega)
   ·rw [if_neg c1]
    right
    exact done (by omega) (by omega)) (s0:=([],[],d.bytes,d.next,d.state,(T:Int),0)) ⟨⟨h.1,by have:=h.2;simp only;omega⟩,rfl,rfl,fun n hn=>by simp at hn,fun b hb=>by simp at hb,by omega,by omega,by simp,rfl⟩ (by omega)
 exact ⟨s',l,i,e,z⟩
theorem wLa {p:wAL} {L C:Nat} (hL:p.Laps=L) (h0:0 < L) (h3:L <= 3) (hC:C <= 4) {pace:Int} (hp:300 <= pace/\pace <= 900) {t:wAN} {n:Nat} (hn:t.Classes.length=n) (hn1:1 <= n) {d:wAC} {N:Int} (h:wCQ d N) (hN:N <= 700000) {T:Nat} (hT:T <= C * L) :
  ∃ s':SE,iter (S:=SB) (B:=SE) (wOl p pace (n:Int)) big (d.bytes,d.next,d.state,[],(T:Int))=some s'/\wCQ ⟨s'.1,s'.2.1,s'.2.2.1⟩ (N + 300)/\s'.2.2.2.length <= C/\(∀ k,k + 1 < s'.2.2.2.length->((gd s'.2.2.2 k).Loops.length:Int)=p.Laps)/\∀ l ∈ s'.2.2.2,wLY p t l:=by
 have hT12:T <= 12:=kQ hT (kQ (nk hC h3) (by omega))
 obtain ⟨b,e,z⟩:=wIy (S:=SB) (B:=SE) (body:=wOl p pace (n:Int))
  (fun j s=>wCQ ⟨s.1,s.2.1,s.2.2.1⟩ (N + 61 * (j:Int))/\s.2.2.2.1.length=j/\j <= C/\(∀ l ∈ s.2.2.2.1,wLY p t l)/\∃ td:Nat,s.2.2.2.2=(td:Int)/\td <= T/\(0 < td->j * L + td=T)/\(∀ k,k + 1 < j->((gd s.2.2.2.1 k).Loops.length:Int)=p.Laps)/\(0 < td->∀ k,k < j->((gd s.2.2.2.1 k).Loops.length:Int)=p.Laps))
  (fun s'=>wCQ ⟨s'.1,s'.2.1,s'.2.2.1⟩ (N + 300)/\s'.2.2.2.length <= C/\(∀ k,k + 1 < s'.2.2.2.length->((gd s'.2.2.2 k).Loops.length:Int)=p.Laps)/\∀ l ∈ s'.2.2.2,wLY p t l) C
  (by
   rintro j ⟨B,x,s,legs,td0⟩ hj ⟨h1,h2,h4,h5,td,h6,h7,h8,h9,h10⟩
   unfold wOl
   simp only at h1 h2 h5 h6 h9 h10 ⊢
   subst h6
   by_cases c1:(0:Int) < (td:Int)
   ·rw [if_pos c1]
    left
    have c1':0 < td:=by omega
    have hjC:j < C:=by
     have:=h8 c1'
     exact Nat.lt_of_mul_lt_mul_right (a:=L) (by omega)
    refine ⟨hjC,?_⟩
    obtain ⟨sk,d2,e1,g1,k0,k1⟩:=wIJ h1 (by omega) (n:Int)
    rw [e1,hD]
    simp only
    obtain ⟨s',l,i,f1,f2,f3,f4,f5,f6,f7,f8,f9,f10⟩:=wPT (p:=p) hL h0 h3 hp (t:=t) (sk:=sk) ⟨k0,by omega⟩ (legs:=legs) (by omega) g1 (by omega) c1' (by omega)
    refine ⟨s',f1,⟨f2.1,by have:=f2.2;omega⟩,by rw [f3];simp [h2],by omega,fun a ha=>?_,td - i,f9,by omega,fun hq=>?_,fun k hk=>?_,fun hq k hk=>?_⟩
    ·rw [f3] at ha
     rcases nJ.1 ha with ha | ha
     ·exact h5 a ha
     ·simp at ha
      subst ha
      exact f4
    ·have:=h8 c1'
     have hiL:i=L:=by omega
     rw [kX]
     omega
    ·rw [f3,wIE (by omega)]
     exact h10 c1' k (by omega)
    ·have hiL:i=L:=by omega
     rw [f3]
     rcases Nat.lt_or_ge k j with hk2 | hk2
     ·rw [wIE (by omega)]
      exact h10 c1' k hk2
     ·have:k=legs.length:=by omega
      subst this
      rw [wMs]
      omega
   ·rw [if_neg c1]
    right
    have h1b:x <= N + 61 * (j:Int):=h1.2
    exact ⟨_,rfl,⟨h1.1,by show x <= _;omega⟩,by simp only;omega,fun k hk=>h9 k (by simp only at hk;omega),h5⟩) (s0:=(d.bytes,d.next,d.state,[],(T:Int))) ⟨⟨h.1,by have:=h.2;simp only;omega⟩,rfl,by omega,fun l hl=>by simp at hl,T,rfl,nX _,fun _=>by omega,fun k hk=>by omega,fun _ k hk=>by omega⟩ (by omega)
 exact ⟨b,e,z⟩
theorem wNI {N:Int} {n:Nat} (hn:n <= 10) {d:wAC} (h:wCQ d N) (hN:N <= 900000):∃ s':List Int × Int × Int × List Int,(wBf 0 (n:Int) (fun (k204:Nat) ((l195,x198,x199,l200):List Int × Int × Int × List Int) =>
      (wAQ (⟨l195,x198,x199⟩:wAC) 2).bind fun (x269,x270) =>
      (app 8 l200 [x269]).bind fun x288 =>
      some (x270.bytes,x270.next,x270.state,x288)) (d.bytes,d.next,d.state,[]))=some s'/\wCQ ⟨s'.1,s'.2.1,s'.2.2.1⟩ (N + 10)/\s'.2.2.2.length=n/\∀ c ∈ s'.2.2.2,0 <= c/\c <= 3:=by
  rw [wEv (by omega)]
  obtain ⟨s',e,i1,i2,i3⟩:=wGM (S:=List Int × Int × Int × List Int) (body:=fun (k204:Nat) ((l195,x198,x199,l200):List Int × Int × Int × List Int) =>
      (wAQ (⟨l195,x198,x199⟩:wAC) 2).bind fun (x269,x270) =>
      (app 8 l200 [x269]).bind fun x288 =>
      some (x270.bytes,x270.next,x270.state,x288)) (fun k s=>wCQ ⟨s.1,s.2.1,s.2.2.1⟩ (N + (k:Int))/\s.2.2.2.length=k/\∀ c ∈ s.2.2.2,0 <= c/\c <= 3) n 0 (d.bytes,d.next,d.state,[]) ⟨⟨h.1,by have:=h.2;simp only;omega⟩,rfl,fun c hc=>by simp at hc⟩
    (by
      rintro k ⟨B,x,s,l⟩ _ hk ⟨i1,i2,i3⟩
      simp only at i1 i2 i3 ⊢
      obtain ⟨c,d2,e1,g1,c0,c1⟩:=wIJ i1 (by omega) 2
      rw [e1,hD]
      simp only
      rw [wDZ (by simp;omega),hD]
      refine ⟨_,rfl,⟨g1.1,by have:=g1.2;simp only;omega⟩,by simp [i2],fun a ha=>?_⟩
      rcases nJ.1 ha with ha | ha
      · exact i3 a ha
      · simp at ha
        omega)
  rw [nm] at i1 i2
  exact ⟨s',e,⟨i1.1,by have:=i1.2;omega⟩,i2,i3⟩
theorem wPU {d:wAC} {N:Int} (h:wCQ d N) (hN:N <= 800000) {m:Int} (hm:1 <= m/\m <= 4):∃ p d',wBp d m=some (p,d')/\wCQ d' (N + 16)/\wGu p/\p.Laps <= 3/\(p.Classes.length:Int) <= m:=by
 unfold wBp
 obtain ⟨a1,d1,e1,g1,u1,v1⟩:=wJb h (by omega) (a:=1) (b:=2) (by omega) (by omega) (by omega)
 rw [e1,hD];simp only
 obtain ⟨a2,d2,e2,g2,u2,v2⟩:=wJb g1 (by omega) (a:=1) (b:=3) (by omega) (by omega) (by omega)
 rw [e2,hD];simp only
 obtain ⟨a3,d3,e3,g3,u3,v3⟩:=wIJ g2 (by omega) 100
 rw [e3,hD];simp only
 obtain ⟨a4,d4,e4,g4,u4,v4⟩:=wIJ g3 (by omega) 100
 rw [e4,hD];simp only
 obtain ⟨a5,d5,e5,g5,u5,v5⟩:=wIJ g4 (by omega) 13
 rw [e5,hD];simp only
 obtain ⟨a6,d6,e6,g6,u6,v6⟩:=wJb g5 (by omega) (a:=1) (b:=m) (by omega) (by omega) (by omega)
 rw [e6,hD];simp only
 obtain ⟨n,rfl⟩:∃ n:Nat,a6=n:=⟨a6.toNat,by omega⟩
 obtain ⟨⟨sB,sx,ss,sl⟩,e7,g7,i2,i3⟩:=wNI (n:=n) (by omega) g6 (by omega)
 simp only at g7 i2 i3
 rw [e7,hD];simp only
 rw [wAX (x:=200 + a4) (by omega) (by omega),wAX (x:=100 * a5) (by omega) (by omega)]
 refine ⟨_,_,rfl,⟨g7.1,by have:=g7.2;omega⟩,⟨by simp only;omega,i3,by simp only;omega,by simp only;omega,by simp only;omega,by simp only;omega,by simp only;omega⟩,by simp only;omega,by simp only;omega⟩
abbrev SM:=List Int × Int × Int × List wAN
def mdB (p:wAL):Nat->SM->Option SM:=fun k102 (l92,x95,x96,l97) =>
 (wAY (⟨l92,x95,x96⟩:wAC) 1 9).bind fun (x131,x132) =>
 (wAY x132 1 5).bind fun (x152,x153) =>
 (wBf 0 x152 (fun k204 (l195,x198,x199,l200) =>
 (wAQ (⟨l195,x198,x199⟩:wAC) 2).bind fun (x269,x270) =>
 (app 8 l200 [x269]).bind fun x288 =>
 some (x270.bytes,x270.next,x270.state,x288)) (x153.bytes,x153.next,x153.state,[])).bind fun (y209,y210,y211,y212) =>
 (wAY (⟨y209,y210,y211⟩:wAC) 300 900).bind fun (x355,x356) =>
 (wAe x356 4).bind fun (x369,x370) =>
 if x369=true then
 (wAQ x370 (w64 ((w64 ((↑p.Classes.length:Int) * p.Laps)) + 1))).bind fun (x385,x386) =>
 (iter (wOl p x355 (↑y212.length:Int)) big (x386.bytes,x386.next,x386.state,[],x385)).bind fun (l399,x402,x403,l404) =>
 (app 56 l97 [(⟨w64 ((w64 (9 * (↑k102:Int))) + x131),y212,l404⟩:wAN)]).bind fun x951 =>
 some (l399,x402,x403,x951)
 else
 (iter (wOl p x355 (↑y212.length:Int)) big (x370.bytes,x370.next,x370.state,[],w64 ((↑p.Classes.length:Int) * p.Laps))).bind fun (l985,x988,x989,l990) =>
 (app 56 l97 [(⟨w64 ((w64 (9 * (↑k102:Int))) + x131),y212,l990⟩:wAN)]).bind fun x1537 =>
 some (l985,x988,x989,x1537)
theorem wML (p0:wAC) (p1 p2:Int):wCE p0 p1 p2 =
 (wBp p0 p2).bind fun (x6,x7) =>
 (wAQ x7 50).bind fun (x24,x25) =>
 (wAY x25 1 p1).bind fun (x46,x47) =>
 (wBf 0 x46 (mdB x6) (x47.bytes,x47.next,x47.state,[])).bind fun (y107,y110,y111,y112) =>
 some ((⟨x6,x24,y112⟩:wAZ),(⟨y107,y110,y111⟩:wAC)):=rfl
theorem wQu {d:wAC} {N:Int} (h:wCQ d N) (hN:N <= 1000) {m q:Int} (hm:1 <= m/\m <= 8) (hq:1 <= q/\q <= 4):∃ r d',wCE d m q=some (r,d')/\wKD r/\(∀ t ∈ r.Teams,GoodS r.Rules t)/\r.Rules.Laps <= 3/\(r.Teams.length:Int) <= m/\(r.Rules.Classes.length:Int) <= q/\r.Start <= 1000:=by
 rw [wML]
 obtain ⟨p,d1,e1,g1,gp,hl3,hcq⟩:=wPU h (by omega) hq
 rw [e1,hD];simp only
 obtain ⟨st,d2,e2,g2,u2,v2⟩:=wIJ g1 (by omega) 50
 rw [e2,hD];simp only
 obtain ⟨nt,d3,e3,g3,u3,v3⟩:=wJb g2 (by omega) (a:=1) (b:=m) (by omega) (by omega) (by omega)
 rw [e3,hD];simp only
 obtain ⟨n,rfl⟩:∃ n:Nat,nt=n:=⟨nt.toNat,by omega⟩
 have hlap:=gp.laps;have hcl:=gp.n
 obtain ⟨L,hL⟩:∃ L:Nat,p.Laps=L:=⟨p.Laps.toNat,by omega⟩
 rw [wEv (by omega)]
 obtain ⟨s',e,i1,i2,i3,i4,i5⟩:=wGM (S:=SM) (body:=mdB p) (fun k s=>wCQ ⟨s.1,s.2.1,s.2.2.1⟩ (N + 20 + 400 * (k:Int))/\s.2.2.2.length=k/\(∀ t ∈ s.2.2.2,GoodS p t)/\(s.2.2.2.map (·.Bib)).Nodup/\∀ t ∈ s.2.2.2,t.Bib <= 9 * (k:Int)) n 0 (d3.bytes,d3.next,d3.state,[]) ⟨⟨g3.1,by have:=g3.2;simp only;omega⟩,rfl,fun t ht=>by simp at ht,by simp,fun t ht=>by simp at ht⟩
  (by
   rintro k ⟨B,x,s,tm⟩ _ hk ⟨i1,i2,i3,i4,i5⟩
   unfold mdB
   simp only at i1 i2 i3 i4 i5 ⊢
   obtain ⟨b,f1,q1,y1,y2,y3⟩:=wJb i1 (by omega) (a:=1) (b:=9) (by omega) (by omega) (by omega)
   rw [q1,hD];simp only
   obtain ⟨nc,f2,q2,y4,y5,y6⟩:=wJb y1 (by omega) (a:=1) (b:=5) (by omega) (by omega) (by omega)
   rw [q2,hD];simp only
   obtain ⟨nn,rfl⟩:∃ n:Nat,nc=n:=⟨nc.toNat,by omega⟩
   obtain ⟨cs,q3,y7,y8,y9⟩:=wNI (n:=nn) (by omega) y4 (by omega)
   obtain ⟨cB,cx,cst,cl⟩:=cs
   simp only at y7 y8 y9
   rw [q3,hD];simp only
   obtain ⟨pace,f4,q4,z1,z2,z3⟩:=wJb y7 (by omega) (a:=300) (b:=900) (by omega) (by omega) (by omega)
   rw [q4,hD];simp only
   obtain ⟨coin,f5,q5,z4⟩:=wLZ z1 (by omega) 4
   rw [q5,hD];simp only
   rw [y8]
   have hCL:w64 ((p.Classes.length:Int) * p.Laps)=((p.Classes.length * L:Nat):Int)/\p.Classes.length * L <= 12:=by
    have:p.Classes.length * L <= 4 * 3:=nk hcl.2 (by omega)
    rw [hL,show (p.Classes.length:Int) * (L:Int)=((p.Classes.length * L:Nat):Int) by rw [Int.natCast_mul],wAX (by omega) (by omega)]
    exact ⟨rfl,by omega⟩
   have fin:∀ (lg:List wAM) (d6:wAC),wCQ d6 (N + 20 + 400 * ((k + 1:Nat):Int))->lg.length <= p.Classes.length->(∀ q,q + 1 < lg.length->((gd lg q).Loops.length:Int)=p.Laps)->(∀ l ∈ lg,wLY p ⟨9 * (k:Int) + b,cl,lg⟩ l) ->
     ∃ s',((app 56 tm [(⟨w64 ((w64 (9 * (↑k:Int))) + b),cl,lg⟩:wAN)]).bind fun x951=>some (d6.bytes,d6.next,d6.state,x951))=some s'/\wCQ ⟨s'.1,s'.2.1,s'.2.2.1⟩ (N + 20 + 400 * ((k + 1:Nat):Int))/\s'.2.2.2.length=k + 1/\(∀ t ∈ s'.2.2.2,GoodS p t)/\(s'.2.2.2.map (·.Bib)).Nodup/\∀ t ∈ s'.2.2.2,t.Bib <= 9 * ((k + 1:Nat):Int):=by
    intro lg d6 hd hlen hfull hgood
    rw [wAX (x:=9 * (k:Int)) (by omega) (by omega),wAX (by omega) (by omega),wDZ (by simp;omega),hD]
    refine ⟨_,rfl,hd,by simp [i2],fun t ht=>?_,?_,fun t ht=>?_⟩
    ·rcases nJ.1 ht with ht | ht
     ·exact i3 t ht
     ·simp only [ni,nh,or_false] at ht
      subst ht
      exact ⟨by simp only;omega,by simp only;omega,y9,hlen,hfull,hgood⟩
    ·simp only [nL,List.map_cons,List.map_nil]
     rw [ny]
     refine ⟨i4,by simp,fun a ha c hc=>?_⟩
     obtain ⟨t,ht,rfl⟩:=nR.1 ha
     simp only [ni,nh,or_false] at hc
     have:=i5 t ht
     omega
    ·rcases nJ.1 ht with ht | ht
     ·have:=i5 t ht
      omega
     ·simp only [ni,nh,or_false] at ht
      subst ht
      simp only
      omega
   cases coin with
   | true =>
    rw [if_pos rfl,hCL.1,wAX (by omega) (by omega)]
    obtain ⟨td,f6,q6,z5,t0,t1⟩:=wIJ z4 (by omega) (((p.Classes.length * L:Nat):Int) + 1)
    rw [q6,hD];simp only
    obtain ⟨T,rfl⟩:∃ T:Nat,td=T:=⟨td.toNat,by omega⟩
    obtain ⟨⟨wB,wx,ws,lg⟩,q7,w1,w2,w3,w4⟩:=wLa (p:=p) (C:=p.Classes.length) hL (by omega) (by omega) hcl.2 (pace:=pace) ⟨z2,z3⟩ (t:=⟨9 * (k:Int) + b,cl,[]⟩) (n:=nn) y8 (by omega) z5 (by omega) (T:=T) (by omega)
    rw [q7,hD];simp only at w1 w2 w3 w4 ⊢
    exact fin lg ⟨wB,wx,ws⟩ ⟨w1.1,by have:=w1.2;simp only at this ⊢;omega⟩ w2 w3 fun l hl=>⟨(w4 l hl).le,(w4 l hl).bouts,(w4 l hl).loops,(w4 l hl).skier,(w4 l hl).ok⟩
   | false =>
    rw [if_neg (by decide),hCL.1]
    obtain ⟨⟨wB,wx,ws,lg⟩,q7,w1,w2,w3,w4⟩:=wLa (p:=p) (C:=p.Classes.length) hL (by omega) (by omega) hcl.2 (pace:=pace) ⟨z2,z3⟩ (t:=⟨9 * (k:Int) + b,cl,[]⟩) (n:=nn) y8 (by omega) z4 (by omega) (T:=p.Classes.length * L) (nX _)
    rw [q7,hD];simp only at w1 w2 w3 w4 ⊢
    exact fin lg ⟨wB,wx,ws⟩ ⟨w1.1,by have:=w1.2;simp only at this ⊢;omega⟩ w2 w3 fun l hl=>⟨(w4 l hl).le,(w4 l hl).bouts,(w4 l hl).loops,(w4 l hl).skier,(w4 l hl).ok⟩)
 obtain ⟨sB,sx,ss,tm⟩:=s'
 rw [e,hD];simp only at i1 i2 i3 i4 i5 ⊢
 exact ⟨_,_,rfl,⟨gp,by simp only;omega,by simp only;omega,fun t ht=>(i3 t ht).toT,i4⟩,i3,hl3,by simp only;omega,hcq,by simp only;omega⟩
theorem wRw {s0:Int} {T:List (List Int)} {i k:Nat}:tmv s0 T i (k + 1)=gd (gd T i) k:=rfl
theorem wMM {r:wAZ} (g:wKD r) (G:∀ t ∈ r.Teams,GoodS r.Rules t) (hc:r.Rules.Classes.length <= 1) {L:Nat} (hL:r.Rules.Laps=L) {i:Nat} (hi:i < r.Teams.length) :
  (gd (wCr r).Times i).length <= L/\(0 < (gd (wFN r) i).length ↔ L <= (gd (wCr r).Times i).length)/\(L <= (gd (wCr r).Times i).length->gd (gd (wFN r) i) 0=tmv r.Start (wCr r).Times i L/\∀ k,k < L->1 <= tmv r.Start (wCr r).Times i (k + 1) - tmv r.Start (wCr r).Times i k/\tmv r.Start (wCr r).Times i (k + 1) - tmv r.Start (wCr r).Times i k <= 9000):=by
 have e1:gd (wCr r).Times i=wGN r.Rules (gd r.Teams i).Legs r.Start:=wHe _ hi
 have e2:gd (wFN r) i=ends r.Rules (gd r.Teams i).Legs r.Start:=wHe _ hi
 have S:=G _ (wCt hi)
 have hl:=S.legs
 have hlap:=g.rules.laps
 cases h:(gd r.Teams i).Legs with
 | nil =>
  rw [h] at e1 e2
  rw [e2,e1]
  simp only [wGN,ends,nI]
  exact ⟨by omega,by omega,fun h=>by omega⟩
 | cons a x =>
  have hx:x=[]:=by
   rw [h,nD] at hl
   exact List.eq_nil_of_length_eq_zero (by omega)
  subst hx
  have ga:=S.leg a (by rw [h];simp)
  have gl:=S.toT.leg a (by rw [h];simp)
  have hle:=ga.le
  rw [h] at e1 e2
  have e1:gd (wCr r).Times i=wPN r.Rules a r.Start:=by rw [e1];simp [wGN]
  have len:(gd (wCr r).Times i).length=a.Loops.length:=by rw [e1];simp [wPN]
  have at_:∀ k,k <= a.Loops.length->tmv r.Start (wCr r).Times i k=tAt r.Rules a r.Start k:=fun k hk=>by
   cases k with
   | zero=>rfl
   | succ k =>
    rw [wRw,e1]
    exact wHC _ (by omega)
  rw [len]
  refine ⟨by omega,?_,fun c=>⟨?_,fun k hk=>?_⟩⟩
  ·rw [e2,ends]
   by_cases c:(a.Loops.length:Int)=r.Rules.Laps
   ·rw [if_pos c]
    simp only [nD]
    omega
   ·rw [if_neg c]
    simp only [ends,nI]
    omega
  ·have c':(a.Loops.length:Int)=r.Rules.Laps:=by omega
   rw [e2,ends,if_pos c',at_ L (by omega)]
   show wLh r.Rules a r.Start=_
   unfold wLh
   rw [show a.Loops.length=L by omega]
  ·rw [at_ _ (by omega),at_ _ (by omega)]
   have h1:=ga.loops _ (wCt (k:=k) (by omega))
   rw [tAt]
   by_cases h:0 < k
   ·have hb:=ga.bouts
    have:=wKh g.rules (ga.ok _ (wCt (k:=k - 1) (by omega)))
    rw [if_pos h]
    unfold bc
    omega
   ·rw [if_neg h];omega
theorem wOm (T:List (List Int)) (x:Nat) (v:Int):∀ m,wPz T x v m=(nB m).countP fun k=>decide (x < (gd T k).length/\gd (gd T k) x < v)
 | 0=>rfl
 | m + 1=>by
  rw [wPz,wOm T x v m,nf,kU]
  congr 1
  by_cases c:x < (gd T m).length/\gd (gd T m) x < v
  ·rw [if_pos c];simp [c]
  ·rw [if_neg c];simp [c]
def wFO (T:List (List Int)) (L n:Nat):List Nat:=(nB n).filter fun i=>decide (L <= (gd T i).length)
theorem wJc (T:List (List Int)) (L n:Nat):wFO T L (n + 1)=if L <= (gd T n).length then wFO T L n ++ [n] else wFO T L n:=by
 unfold wFO
 rw [nf,kT]
 by_cases c:L <= (gd T n).length
 ·rw [if_pos c];simp [c]
 ·rw [if_neg c];simp [c]
theorem wKj (T:List (List Int)) (L:Nat):∀ n,(wFO T L n).length <= n
 | 0=>by simp [wFO]
 | n + 1=>by
  have:=wKj T L n
  rw [wJc]
  split
  ·rw [nH,nO];omega
  ·omega
theorem wOn {T:List (List Int)} {L n j:Nat} (hj:j < (wFO T L n).length):gd (wFO T L n) j < n/\L <= (gd T (gd (wFO T L n) j)).length:=by
 have h:=wCt hj
 have h:=List.mem_filter.1 h
 exact ⟨nT.1 h.1,by simpa using h.2⟩
theorem wPV {r:wAZ} (g:wKD r) (G:∀ t ∈ r.Teams,GoodS r.Rules t) (hc:r.Rules.Classes.length <= 1) {L:Nat} (hL:r.Rules.Laps=L) {j:Nat} (hj:j < (wFO (wCr r).Times L r.Teams.length).length) :
  plc (wFN r) 0 (gd (wFO (wCr r).Times L r.Teams.length) j)=1 + (wPy r.Start (wCr r).Times L (wFO (wCr r).Times L r.Teams.length) j:Int):=by
 obtain ⟨i1,i2⟩:=wOn hj
 have t:=wMM g G hc hL i1
 have hl:(wFN r).length=r.Teams.length:=by simp [wFN]
 unfold plc
 rw [if_pos (t.2.1.2 i2),wOm,hl,(t.2.2 i2).1]
 congr 2
 unfold wPy
 generalize hv:tmv r.Start (wCr r).Times (gd (wFO (wCr r).Times L r.Teams.length) j) L=v
 have e:∀ (tl:List Nat) (p:Nat->Bool),(nB tl.length).countP (fun i=>p (gd tl i))=tl.countP p:=fun tl p=>by
  have e:(nB tl.length).map (gd tl)=tl:=by
   refine wLO (by simp) fun k hk=>?_
   have hk:k < tl.length:=by simpa using hk
   rw [wMB (by simpa using hk)]
   simp
  have:=congrArg (List.countP p) e
  rw [List.countP_map] at this
  exact this
 rw [e (wFO (wCr r).Times L r.Teams.length) fun a=>decide (tmv r.Start (wCr r).Times a L < v)]
 unfold wFO
 rw [List.countP_filter]
 refine nz fun k hk=>?_
 have tk:=wMM g G hc hL (nT.1 hk)
 simp only [decide_eq_true_eq,nU]
 constructor
 ·rintro ⟨h1,h2⟩
  have:=tk.2.1.1 h1
  rw [(tk.2.2 this).1] at h2
  exact ⟨h2,this⟩
 ·rintro ⟨h2,h1⟩
  refine ⟨tk.2.1.2 h1,?_⟩
  rw [(tk.2.2 h1).1]
  exact h2
abbrev SI:=List wAP × List wAP × List Int × Int × Int
abbrev SO:=List wAP × List Int × List wAP × List Int × Int × Int × List Int × List Int
def rbI (x447:List Int) (m:Int):Nat->SI->Option SI:=fun k501 (l490,l493,l496,x499,x500) =>
 (chk (↑k501:Int) x447.length).bind fun _ =>
 (wAe (⟨l496,x499,x500⟩:wAC) 2).bind fun (x550,x551) =>
 if x550=true then
 (app 32 l490 [(⟨m,(↑k501:Int),0,(gd x447 k501)⟩:wAP)]).bind fun x572 =>
 (app 32 l493 [(⟨m,(↑k501:Int),0,w64 ((gd x447 k501) + 17)⟩:wAP)]).bind fun x591 =>
 some (x572,x591,x551.bytes,x551.next,x551.state)
 else
 (app 32 l493 [(⟨m,(↑k501:Int),0,w64 ((gd x447 k501) + 17)⟩:wAP)]).bind fun x622 =>
 some (l490,x622,x551.bytes,x551.next,x551.state)
def rbO (s0:Int) (T:List (List Int)) (L:Int):Nat->SO->Option SO:=fun k355 (l330,l334,l338,l342,x345,x346,l347,l351) =>
 (idx T (↑k355:Int)).bind fun x406 =>
 if (↑x406.length:Int) < L then
 some (l330,l334,l338,l342,x345,x346,l347,l351)
 else
 (app 8 [s0] x406).bind fun x447 =>
 (wBf 0 (↑x447.length:Int) (rbI x447 (↑l334.length:Int)) (l330,l338,l342,x345,x346)).bind fun (y506,y507,y508,y509,y510) =>
 (app 8 l334 [s0]).bind fun x689 =>
 (idx x406 (w64 (L - 1))).bind fun x697 =>
 (app 8 l347 [x697]).bind fun x710 =>
 (app 8 l351 [(↑k355:Int)]).bind fun x723 =>
 some (y506,x689,y507,y508,y509,y510,x710,x723)
structure II (X:List Int) (m:Int) (N:Int) (a b:List wAP) (k:Nat) (s:SI):Prop where
 d:wCQ ⟨s.2.2.1,s.2.2.2.1,s.2.2.2.2⟩ (N + (k:Int))
 rd:s.2.1=b ++ (nB k).map fun (i:Nat)=>(⟨m,(i:Int),0,gd X i + 17⟩:wAP)
 sr:∀ x ∈ s.1,x ∈ a \/ ∃ i:Nat,i < k/\x=⟨m,(i:Int),0,gd X i⟩
 n:s.1.length <= a.length + k
theorem wPW {X:List Int} {m:Int} {N:Int} (hN:N <= 10000) {a b:List wAP} {d:wAC} (hd:wCQ d N) (hX:X.length <= 10) (hx:∀ k,k < X.length->0 <= gd X k/\gd X k <= 1000000) (ha:a.length <= 100) (hb:b.length <= 100) :
  ∃ s,wBf 0 (↑X.length:Int) (rbI X m) (a,b,d.bytes,d.next,d.state)=some s/\II X m N a b X.length s :=
 wHB (II X m N a b) (by omega) ⟨by simpa using hd,by simp,fun x hx=>.inl hx,by simp⟩ fun k s hk I=>by
  obtain ⟨u,v,B,x,y⟩:=s
  obtain ⟨i1,i2,i3,i4⟩:=I
  simp only at i1 i2 i3 i4
  obtain ⟨c,d',e,h⟩:=wLZ i1 (by omega) 2
  have hxk:=hx k hk
  have lv:v.length=b.length + k:=by rw [i2];simp
  have dk:wCQ ⟨d'.bytes,d'.next,d'.state⟩ (N + ((k + 1:Nat):Int)):=⟨h.1,by have:=h.2;simp only;omega⟩
  have rd:v ++ [(⟨m,(k:Int),0,gd X k + 17⟩:wAP)]=b ++ (nB (k + 1)).map fun (i:Nat)=>(⟨m,(i:Int),0,gd X i + 17⟩:wAP):=by
   rw [i2,nf,nL,nV]
   rfl
  unfold rbI
  simp only
  rw [wEB (by omega) (by omega),hD,e,hD,wAX (by omega) (by omega)]
  simp only
  cases c with
  | true =>
   rw [if_pos rfl,wDZ (by simp only [nD,nI];omega),hD,wDZ (by simp only [nD,nI];omega),hD]
   refine ⟨_,rfl,dk,rd,fun x hx=>?_,by simp only [nH,nD,nI];omega⟩
   rcases nJ.1 hx with hx | hx
   ·rcases i3 x hx with h | ⟨i,hi,h⟩
    ·exact .inl h
    ·exact .inr ⟨i,by omega,h⟩
   ·exact .inr ⟨k,by omega,nP.1 hx⟩
  | false =>
   rw [if_neg (by simp),wDZ (by simp only [nD,nI];omega),hD]
   refine ⟨_,rfl,dk,rd,fun x hx=>?_,by simp only;omega⟩
   rcases i3 x hx with h | ⟨i,hi,h⟩
   ·exact .inl h
   ·exact .inr ⟨i,by omega,h⟩
structure OI (s0:Int) (T:List (List Int)) (L:Nat) (k:Nat) (s:SO):Prop where
 d:wCQ ⟨s.2.2.2.1,s.2.2.2.2.1,s.2.2.2.2.2.1⟩ (10 * (k:Int))
 st:s.2.1=nA (wFO T L k).length s0
 en:s.2.2.2.2.2.2.1=(wFO T L k).map fun i=>tmv s0 T i L
 tm:s.2.2.2.2.2.2.2=(wFO T L k).map fun (i:Nat)=>(i:Int)
 n:s.2.2.1.length <= (wFO T L k).length * (L + 1)
 rd:∀ x ∈ s.2.2.1,∃ j k':Nat,j < (wFO T L k).length/\k' <= L/\x=⟨(j:Int),(k':Int),0,tmv s0 T (gd (wFO T L k) j) k' + 17⟩
 full:Full s0 T L (wFO T L k) 17 s.2.2.1
 n':s.1.length <= (wFO T L k).length * (L + 1)
 sr:∀ x ∈ s.1,∃ j k':Nat,j < (wFO T L k).length/\k' <= L/\x=⟨(j:Int),(k':Int),0,tmv s0 T (gd (wFO T L k) j) k' + 0⟩
theorem wPX {s0:Int} {T:List (List Int)} {L:Nat} (L1:1 <= L) (L3:L <= 3) (hn:T.length <= 6) (hT:∀ i,i < T.length->(gd T i).length <= L) (hx:∀ i,i < T.length->L <= (gd T i).length->∀ k,k <= L->0 <= tmv s0 T i k/\tmv s0 T i k <= 1000000) {p:List Int} :
  ∃ s,wBf 0 (↑T.length:Int) (rbO s0 T (L:Int)) ([],[],[],p,0,17,[],[])=some s/\OI s0 T L T.length s :=
 wHB (OI s0 T L) (by omega) ⟨⟨by simp,by simp⟩,rfl,rfl,rfl,by simp,fun x hx=>by simp at hx,fun j k hj=>by simp [wFO] at hj,by simp,fun x hx=>by simp at hx⟩ fun k s hk I=>by
  obtain ⟨sr,st,rd,B,x,y,en,tm⟩:=s
  obtain ⟨i1,i2,i3,i4,i5,i6,i7,i8,i9⟩:=I
  simp only at i1 i2 i3 i4 i5 i6 i7 i8 i9
  have fl:=wKj T L k
  unfold rbO
  simp only
  rw [wDE hk,hD]
  by_cases c:((gd T k).length:Int) < (L:Int)
  ·have ef:wFO T L (k + 1)=wFO T L k:=by rw [wJc,if_neg (by omega)]
   rw [if_pos c]
   refine ⟨_,rfl,⟨?_,?_,?_,?_,?_,?_,?_,?_,?_⟩⟩
   ·exact ⟨i1.1,by have:=i1.2;simp only at this ⊢;omega⟩
   all_goals rw [ef];assumption
  ·have ef:wFO T L (k + 1)=wFO T L k ++ [k]:=by rw [wJc,if_pos (by omega)]
   have hl:=hT k hk
   have xL:=hx k hk (by omega)
   have bnd:(wFO T L k).length * (L + 1) <= 6 * 4:=nk (by omega) (by omega)
   rw [if_neg c,wDZ (by simp only [nD,nI];omega),hD]
   have lX:([s0] ++ gd T k).length=L + 1:=by simp only [nH,nD,nI];omega
   obtain ⟨⟨a',b',B',x',y'⟩,e,j1,j2,j3,j4⟩:=wPW (X:=[s0] ++ gd T k) (m:=(st.length:Int)) (a:=sr) (b:=rd) (d:=⟨B,x,y⟩) (N:=10 * (k:Int)) (by omega) i1 (by omega) (fun q hq=>xL q (by omega)) (by omega) (by omega)
   simp only at j1 j2 j3 j4
   rw [e,hD]
   simp only
   have ls:st.length=(wFO T L k).length:=by rw [i2,nE]
   rw [lX] at j1 j2 j3 j4
   have le:en.length=(wFO T L k).length:=by rw [i3,nK]
   have lt:tm.length=(wFO T L k).length:=by rw [i4,nK]
   have eL:idx (gd T k) (w64 ((L:Int) - 1))=some (tmv s0 T k L):=by
    obtain ⟨L',rfl⟩:∃ L',L=L' + 1:=⟨L - 1,by omega⟩
    rw [wAX (by omega) (by omega),show ((L' + 1:Nat):Int) - 1=(L':Int) by omega]
    exact wDE (by omega)
   rw [wDZ (by simp only [nD,nI];omega),hD,eL,hD,wDZ (by simp only [nD,nI];omega),hD,wDZ (by simp only [nD,nI];omega),hD]
   have old:∀ j,j < (wFO T L k).length->gd (wFO T L (k + 1)) j=gd (wFO T L k) j:=fun j hj=>by rw [ef,wIE hj]
   have new:gd (wFO T L (k + 1)) (wFO T L k).length=k:=by rw [ef,wMs]
   have ln:(wFO T L (k + 1)).length=(wFO T L k).length + 1:=by rw [ef];simp
   refine ⟨_,rfl,⟨?_,?_,?_,?_,?_,?_,?_,?_,?_⟩⟩
   ·exact ⟨j1.1,by have:=j1.2;simp only at this ⊢;omega⟩
   ·simp only
    rw [i2,ln,kM]
   ·simp only
    rw [i3,ef,nL];rfl
   ·simp only
    rw [i4,ef,nL];rfl
   ·simp only
    rw [ln,j2,nH,nK,ng,kX]
    omega
   ·intro q hq
    simp only at hq
    rw [j2] at hq
    rcases nJ.1 hq with hq | hq
    ·obtain ⟨j,k',h1,h2,h3⟩:=i6 q hq
     exact ⟨j,k',by omega,h2,by rw [old j h1];exact h3⟩
    ·obtain ⟨i,hi,rfl⟩:=nR.1 hq
     have:=nT.1 hi
     exact ⟨(wFO T L k).length,i,by omega,by omega,by rw [new,ls];rfl⟩
   ·intro j k' hj hk'
    simp only
    rw [j2]
    rw [ln] at hj
    rcases Nat.lt_or_eq_of_le (Nat.le_of_lt_succ hj) with h | h
    ·rw [old j h]
     exact List.mem_append_left _ (i7 j k' h hk')
    ·rw [h,new]
     exact List.mem_append_right _ (nR.2 ⟨k',nT.2 (by omega),by rw [ls];rfl⟩)
   ·simp only
    rw [ln,kX]
    omega
   ·intro q hq
    simp only at hq
    rcases j3 q hq with hq | ⟨i,hi,rfl⟩
    ·obtain ⟨j,k',h1,h2,h3⟩:=i9 q hq
     exact ⟨j,k',by omega,h2,by rw [old j h1];exact h3⟩
    ·exact ⟨(wFO T L k).length,i,by omega,by omega,by rw [new,ls,Int.add_zero];rfl⟩
theorem wQA:wBU=some true:=by decide +kernel
def rbF (A B:wAF) (L:Int) (en tm pl:List Int) (X Y:List wAD):Nat->Unit->Option (Unit ⊕ Bool):=fun k1317 _ =>
 (chk (↑k1317:Int) tm.length).bind fun _ =>
 (wBy A (⟨(↑k1317:Int),L⟩:wAa)).bind fun (x1362,x1363) =>
 (wBy B (⟨(↑k1317:Int),L⟩:wAa)).bind fun (x1388,x1389) =>
 if x1363=0 then
 if x1389=0 then
 (chk (↑k1317:Int) en.length).bind fun _ =>
 if x1362=(⟨(gd en k1317),(gd en k1317)⟩:wAD) then
 (wAy (gd en k1317) x1388).bind fun x1421 =>
 if x1421=true then
 (chk (↑k1317:Int) X.length).bind fun _ =>
 (chk (gd tm k1317) pl.length).bind fun _ =>
 if (gd X k1317)=(⟨(gd pl (gd tm k1317).toNat),(gd pl (gd tm k1317).toNat)⟩:wAD) then
 (chk (↑k1317:Int) Y.length).bind fun _ =>
 (wAy (gd pl (gd tm k1317).toNat) (gd Y k1317)).bind fun x1452 =>
 if x1452=true then
 some (.inl ())
 else
 esc (some false)
 else
 esc (some false)
 else
 esc (some false)
 else
 esc (some false)
 else
 esc (some false)
 else
 esc (some false)
theorem wKE (p0 p1:List Int):wBl p0 p1 =
 (wCM p0).bind fun x1 =>
 (wCE x1 6 1).bind fun (x16,x17) =>
 (wCM p1).bind fun x47 =>
 (wES x16).bind fun (x75,x76) =>
 (wDB x16 0).bind fun (x103,x104) =>
 if x76=0 then
  if x104=0 then
   if (↑x75.Times.length:Int)=(↑x16.Teams.length:Int) then
    if (↑x103.length:Int)=(↑x16.Teams.length:Int) then
     (wBf 0 x16.Rules.Laps (fun k162 l158 =>
      (app 16 l158 [(⟨1,9000⟩:wAD)]).bind fun x193 =>
      some x193) []).bind fun y167 =>
     (wBf 0 (↑x75.Times.length:Int) (rbO x16.Start x75.Times x16.Rules.Laps) ([],[],[],x47.bytes,x47.next,x47.state,[],[])).bind fun (y360,y361,y362,y363,y364,y365,y366,y367) =>
     if (↑y361.length:Int)=0 then
      (wBU).bind fun x1213 =>
      some x1213
     else
      (wBZ (⟨y361,y167,[(⟨(⟨-30,30⟩:wAD),0⟩:wAR)],y362⟩:wAF) x16.Rules.Laps).bind fun (x1250,x1251) =>
      (wBZ (⟨y361,y167,[(⟨(⟨0,0⟩:wAD),0⟩:wAR)],y360⟩:wAF) x16.Rules.Laps).bind fun (x1281,x1282) =>
      if x1251=0 then
       if x1282=0 then
        if (↑x1250.length:Int)=(↑y367.length:Int) then
         if (↑x1281.length:Int)=(↑y367.length:Int) then
          jn (wFX 0 (↑y367.length:Int) (rbF ⟨y361,y167,[(⟨(⟨-30,30⟩:wAD),0⟩:wAR)],y362⟩ ⟨y361,y167,[(⟨(⟨0,0⟩:wAD),0⟩:wAR)],y360⟩ x16.Rules.Laps y366 y367 x103 x1250 x1281) ()) fun _ =>
          (wBU).bind fun x1530 =>
          some x1530
         else
          some false
        else
         some false
       else
        some false
      else
       some false
    else
     some false
   else
    some false
  else
   some false
 else
  some false:=rfl
theorem wLb {n:Int} {s:wAD} (h:s.Lo <= n/\n <= s.Hi):wAy n s=some true:=by
 unfold wAy
 rw [if_pos h.1,decide_eq_true h.2]
theorem wMN (p0 p1:List Int):wBl p0 p1=some true:=by
 rw [wKE,show wCM p0=some (⟨p0,0,17⟩:wAC) from rfl,hD]
 obtain ⟨r,d',e0,g,G,hl3,hn6,hc1,hs⟩:=wQu (d:=(⟨p0,0,17⟩:wAC)) (N:=0) ⟨by simp,by simp⟩ (by omega) (m:=6) (q:=1) (by omega) (by omega)
 have hn:=g.n;have hL:=g.rules.laps;have h0:=g.start;have hc:=g.rules.n
 obtain ⟨L,eL⟩:∃ L:Nat,r.Rules.Laps=L:=⟨r.Rules.Laps.toNat,by omega⟩
 have eP:wDB r 0=some ((nB (wFN r).length).map (plc (wFN r) 0),0):=wNc g (x:=0) (by omega)
 have lT:(wFN r).length=r.Teams.length:=by simp [wFN]
 have lA:(wCr r).Times.length=r.Teams.length:=by
  show (after r).length=_
  simp [after]
 have hc':r.Rules.Classes.length <= 1:=by omega
 have tm:=fun i hi=>wMM g G hc' eL (i:=i) hi
 have nr:∀ i,i < r.Teams.length->L <= (gd (wCr r).Times i).length->∀ k,k <= L->0 <= tmv r.Start (wCr r).Times i k/\tmv r.Start (wCr r).Times i k <= 1000 + 9000 * (k:Int):=by
  intro i hi c k
  induction k with
  | zero =>
   intro _
   show 0 <= r.Start/\r.Start <= _
   omega
  | succ k ih =>
   intro hk
   have:=ih (by omega)
   have:=((tm i hi).2.2 c).2 k (by omega)
   omega
 rw [e0,hD]
 simp only
 rw [show wCM p1=some (⟨p1,0,17⟩:wAC) from rfl,hD,wQr g,hD]
 simp only
 rw [eP,hD]
 simp only
 obtain ⟨⟨sr,st,rd,B,x,y,en,ts⟩,e1,i1,i2,i3,i4,i5,i6,i7,i8,i9⟩:=wPX (s0:=r.Start) (T:=(wCr r).Times) (L:=L) (by omega) (by omega) (by omega) (fun i hi=>(tm i (by omega)).1) (fun i hi c k hk=>by
  have:=nr i (by omega) c k hk
  omega) (p:=p1)
 simp only at i1 i2 i3 i4 i5 i6 i7 i8 i9
 rw [if_pos trivial,if_pos trivial,if_pos (by omega),if_pos (by rw [nK,ng];omega),eL,wDu (S:=List wAD) (n:=L) (fun k=>nA k ⟨1,9000⟩) (s0:=[]) rfl (by omega) fun k hk=>by
  rw [wDZ (by simp only [nE,nD,nI];omega),hD,kM],hD,e1,hD]
 simp only
 have fl:=wKj (wCr r).Times L (wCr r).Times.length
 have lts:ts.length=(wFO (wCr r).Times L (wCr r).Times.length).length:=by rw [i4,nK]
 have len:en.length=(wFO (wCr r).Times L (wCr r).Times.length).length:=by rw [i3,nK]
 by_cases c:(st.length:Int)=0
 ·rw [if_pos c,wQA]
  rfl
 rw [if_neg c]
 rw [i2,nE] at c
 rw [i2]
 rw [lA] at fl lts len c i2 i3 i4 i5 i6 i7 i8 i9 ⊢
 have gtl:∀ j,j < (wFO (wCr r).Times L r.Teams.length).length->gd (wFO (wCr r).Times L r.Teams.length) j < r.Teams.length/\L <= (gd (wCr r).Times (gd (wFO (wCr r).Times L r.Teams.length) j)).length:=fun j hj=>wOn hj
 have pl:∀ j,j < (wFO (wCr r).Times L r.Teams.length).length->plc (wFN r) 0 (gd (wFO (wCr r).Times L r.Teams.length) j)=1 + (wPy r.Start (wCr r).Times L (wFO (wCr r).Times L r.Teams.length) j:Int):=fun j hj=>wPV g G hc' eL hj
 generalize htl:wFO (wCr r).Times L r.Teams.length=tl at fl lts len c i2 i3 i4 i5 i6 i7 i8 i9 gtl pl ⊢
 have bnd:tl.length * (L + 1) <= 6 * 4:=nk (by omega) (by omega)
 have P:Lp r.Start (wCr r).Times L tl:=⟨by omega,by omega,by omega,fun j hj k hk=>((tm _ (gtl j hj).1).2.2 (gtl j hj).2).2 k hk⟩
 have R1:Rd r.Start (wCr r).Times L tl 17 rd:=⟨by omega,i6⟩
 have R2:Rd r.Start (wCr r).Times L tl 0 sr:=⟨by omega,i9⟩
 obtain ⟨X,f1,f2,f3⟩:=wLW P R1 (lo:=-30) (hi:=30) (by omega)
 obtain ⟨Y,f4,f5,f6⟩:=wLW P R2 (lo:=0) (hi:=0) (by omega)
 have f1:wBZ (⟨nA tl.length r.Start,nA L ⟨1,9000⟩,[⟨⟨-30,30⟩,0⟩],rd⟩:wAF) (L:Int)=some (X,0):=f1
 have f4:wBZ (⟨nA tl.length r.Start,nA L ⟨1,9000⟩,[⟨⟨0,0⟩,0⟩],sr⟩:wAF) (L:Int)=some (Y,0):=f4
 rw [f1,hD]
 simp only
 rw [f4,hD]
 simp only
 rw [if_pos trivial,if_pos trivial,if_pos (by omega),if_pos (by omega),wGs (by omega) fun k hk=>?_,wLk,wQA]
 ·rfl
 ·have hk':k < tl.length:=by omega
  obtain ⟨s1,g1,_,_,g4⟩:=wNE P R1 (lo:=-30) (hi:=30) (by omega) hk'
  obtain ⟨s2,g5,g6,g7,_⟩:=wNE P R2 (lo:=0) (hi:=0) (by omega) hk'
  have g1:wBy (⟨nA tl.length r.Start,nA L ⟨1,9000⟩,[⟨⟨-30,30⟩,0⟩],rd⟩:wAF) ⟨(k:Int),(L:Int)⟩=some (s1,0):=g1
  have g5:wBy (⟨nA tl.length r.Start,nA L ⟨1,9000⟩,[⟨⟨0,0⟩,0⟩],sr⟩:wAF) ⟨(k:Int),(L:Int)⟩=some (s2,0):=g5
  have ek:gd en k=tmv r.Start (wCr r).Times (gd tl k) L:=by rw [i3];exact wHe _ hk'
  have tk:gd ts k=((gd tl k:Nat):Int):=by rw [i4];exact wHe _ hk'
  have gk:=gtl k hk'
  have pk:=pl k hk'
  have h3:=(f3 k hk').2.2 i7
  have h6:=f6 k hk'
  unfold rbF
  rw [wEB (by omega) (by omega),hD,g1,hD]
  simp only
  rw [g5,hD]
  simp only
  rw [if_pos trivial,if_pos trivial,wEB (by omega) (by omega),hD,ek,if_pos (g4 i7),wLb ⟨g6,g7⟩,hD,if_pos rfl,wEB (by omega) (by omega),hD,tk,wEB (by omega) (by rw [nK,ng];omega),hD,nQ,wHC _ (by omega),pk,if_pos h3,wEB (by omega) (by omega),hD,wLb ⟨h6.1,h6.2.1⟩,hD,if_pos rfl]
end Go.Proofs.YtnbcoenjobdplaaGreat
