import Derived.Test.YtbpllbhagaoocaaGreatZ3
import Derived.Test.YtbpllbhagaoocaaGreatZ0
import Derived.Lib.SlicesCompact
import Derived.Test.YtbpllbhagaoocaaGreatZ1
import Derived.Test.YtbpllbhagaoocaaGreatZ2
set_option linter.all false
open Option renaming bind_some->nA,getD_none->nQ,getD_some->nv
open Int renaming toNat_natCast->nD,le_refl->nJ,le_of_lt->nu
open List renaming pairwise_iff_getElem->nE,mem_singleton->nG,getElem_of_mem->nH,mem_append->nI,take_length->nK,nodup_iff_pairwise_ne->nL,mem_append_right->nM,mem_append_left->nN,nodup_append->nO,getElem_map->nR,length_append->nS,replicate->nT,flatMap->nU,set->nV,pairwise_append->nW,length_map->nX,map_append->nY,mem_map->nZ,pairwise_singleton->na,countP_cons->nc,length_take->ng,all_eq_true->nh,countP_eq_zero->nl,pairwise_cons->np,countP_append->nq,pairwise_mergeSort->nw,take_of_length_le->ny,countP_le_length->kA,countP_mono_left->kB,countP_eq_length->kC,take_append_drop->kD,mem_cons_of_mem->kE,mergeSort_perm->kG,append_assoc->kL
open Bool renaming eq_false_iff->nP,noConfusion->nf,and_eq_true->nj,not_eq_true'->nt,false_eq_true->kJ
open Option.some renaming inj->nk
open List.Pairwise renaming nil->nr
open Go.Value renaming int->kH
open Nat renaming lt_or_ge->kK
open List.Perm renaming trans->kM
namespace Go.KL
open Go.RowKit Go.Lib Go.Sort
def wEq (l:List Int):Option (List Int):=if l.length < 4611686018427387904 then some (Go.Lib.compact l) else none
theorem wIK (l:List Int):(Go.Lib.compact l).length <= l.length:=by
 unfold Go.Lib.compact Go.Lib.compactUpTo
 rw [nX]
 exact Nat.le_trans (List.length_filter_le _ _) (by simp)
theorem wIL {P:Program} {f T:Nat} {A:Option Addr} {c:Nat} {p r:List Int} {w:World} {U:PHeap}
  (H:∀ (blk off cap:Nat) (zs:List Int) (w:World),Go.Sort.Holds (kH .i64) w blk off zs.toArray->zs.length <= 9223372036854775807->zs.length <= cap->Calls P f #[.slice (some ⟨blk,off,none⟩) zs.length cap] w fun e w'=>e=.returned (.slice (some ⟨blk,off,none⟩) (Go.Lib.compact zs).length cap)/\∃ q,w'=Go.Sort.putRow (kH .i64) (Go.Sort.ahead w q) blk off (Go.Lib.compact zs ++ nT (zs.length - (Go.Lib.compact zs).length) 0).toArray)
  (HN:∀ (p:Option Addr) (cap:Nat) (w:World),Calls P f #[.slice p 0 cap] w fun e w'=>e=.returned (.slice p 0 cap)/\w'=w)
  (hS:St ⟨w,[.row A c T 1 (nU encI p)],U⟩ U [.row A c T 1 (nU encI p)] w) (hm:wEq p=some r) :
  Gv P f [.slice A p.length c] w (wCR w [.row A c T 1 (nU encI p)] U fun U_ L_ v=>∃ (A0:Option Addr) (c0:Nat),v=.slice A0 r.length c0/\L_=[.row A0 c0 T 1 (nU encI r)]):=by
 unfold wEq at hm
 split at hm
 ·rename_i hlen
  cases hm
  have hfl:∀ l:List Int,l.flatMap encI=l.map (kH .i64):=fun l=>wFT l
  have hr:=hS.at_ _ (List.mem_cons_self ..)
  have nil:p=[]->Gv P f [.slice A p.length c] w (wCR w [.row A c T 1 (nU encI p)] U fun U_ L_ v=>∃ (A0:Option Addr) (c0:Nat),v=.slice A0 (Go.Lib.compact p).length c0/\L_=[.row A0 c0 T 1 (nU encI (Go.Lib.compact p))]):=by
   rintro rfl
   refine Calls.mono' (HN A c w) ?_
   rintro e w' ⟨rfl,rfl⟩
   exact ⟨_,rfl,U,_,hS,A,c,rfl,rfl⟩
  rcases hr with ⟨rfl,rfl,h0⟩ | ⟨b,cur,rfl,h1,h2,_⟩
  ·refine nil ?_
   rw [hfl] at h0
   simpa using h0
  ·obtain ⟨g1,g2⟩:=hS.holds (k:=0) rfl
   rw [hfl] at g1 h2
   refine Calls.mono' (H b 0 c p w (wHS _ _ _ _ _ (by simpa using g1)) (by omega) (by simpa using h2)) ?_
   rintro e w' ⟨rfl,n,rfl⟩
   have hl:=wIK p
   have s1:=hS.sorted (k:=0) (n:=n) (os:=#[]) (cs':=(Go.Lib.compact p ++ nT (p.length - (Go.Lib.compact p).length) 0).map (kH .i64)) rfl (by rw [hfl];simp;omega)
   have e0:∀ x:World,Go.Sort.grow x #[]=x:=fun x=>by simp [Go.Sort.grow]
   rw [e0,nY] at s1
   have s2:=s1.cutRow (k:=0) rfl
   refine ⟨_,rfl,U,[.row (some ⟨b,0,none⟩) c T 1 (nU encI (Go.Lib.compact p))],?_,_,c,rfl,rfl⟩
   rw [wGJ,hfl (Go.Lib.compact p)]
   simpa using s2
 ·cases hm
end Go.KL
namespace Go.Proofs.YtbpllbhagaoocaaGreat
open Go.KL
noncomputable section
structure wAA where
 Laps:Int
 Bibs:List Int
 Times:List (List Int)
deriving DecidableEq,Inhabited,Repr
structure wAH where
 Laps:Int
 Bibs:List Int
 Times:List (List Int)
deriving DecidableEq,Inhabited,Repr
structure wAD where
 Race:wAA
 done:List Int
 out:List Bool
deriving DecidableEq,Inhabited,Repr
structure wAC where
 Bib:Int
 Done:Int
 Time:Int
 By:Int
deriving DecidableEq,Inhabited,Repr
structure wAJ where
 Bib:Int
 Done:Int
 Time:Int
 By:Int
deriving DecidableEq,Inhabited,Repr
def wBF:Option Bool:=some true
def wAa (p0:List Int):Option ((List Int)) :=
 (app 8 ([]:List Int) p0).bind fun x4 =>
 some x4
def wAX (p0:List (List Int)):Option ((List (List Int))) :=
 (wBu 0 (↑p0.length:Int) (fun k22 l17 =>
  (idx p0 (↑k22:Int)).bind fun x46 =>
  (wAa x46).bind fun x59 =>
  (app 24 l17 [x59]).bind fun x83 =>
  some x83) []).bind fun y27 =>
 some y27
def wAf (p0:wAA):Option (wAA) :=
 (wAa p0.Bibs).bind fun x11 =>
 (wAX p0.Times).bind fun x25 =>
 some (⟨p0.Laps,x11,x25⟩:wAA)
def wBz (p0:Int) (p1:Int) (p2:Int):Option (Bool) :=
 if p1 <= p0 then
  some (decide (p0 <= p2))
 else
  some false
def wAr (p0:List Int) (p1:wAA):Option (Bool) :=
 some (decide ((↑p0.length:Int) <= p1.Laps))
def wBT (p0:List (List Int)) (p1:((List Int)->Option Bool)):Option (Bool) :=
 jn (wFE 0 (↑p0.length:Int) (fun k2 _ =>
  (idx p0 (↑k2:Int)).bind fun x22 =>
  (p1 x22).bind fun x35 =>
  if x35=true then
   some (.inl ())
  else
   esc (some false)) ()) fun _ =>
 some true
def wAx (p0:List Int) (p1:(Int->Option Bool)):Option (Bool) :=
 jn (wFE 0 (↑p0.length:Int) (fun k2 _ =>
  (idx p0 (↑k2:Int)).bind fun x22 =>
  (p1 x22).bind fun x30 =>
  if x30=true then
   some (.inl ())
  else
   esc (some false)) ()) fun _ =>
 some true
def wAs (p0:Int):Option (Bool) :=
 (wBz p0 1 999).bind fun x1 =>
 some x1
def wAn (p0:Int):Option (Bool) :=
 (wBz p0 0 360000).bind fun x1 =>
 some x1
def wAt (p0:List Int):Option (Bool) :=
 (wAx p0 wAn).bind fun x2 =>
 some x2
def wBs (p0:List Int):Option (Bool) :=
 jn (wFE 0 (↑p0.length:Int) (fun k20 l17 =>
  (idx p0 (↑k20:Int)).bind fun x41 =>
  if (wDi l17 x41 false)=true then
   esc (some true)
  else
   some (.inl (mput l17 x41 true))) ([]:List (Int × Bool))) fun y68 =>
 some false
def wAu (p0:wAA):Option (Int) :=
 (wBz p0.Laps 1 20).bind fun x10 =>
 if x10=true then
  if 60 < (↑p0.Bibs.length:Int) then
   some 2
  else
   if (↑p0.Times.length:Int)=(↑p0.Bibs.length:Int) then
    (wBT p0.Times (fun x=>wAr x p0)).bind fun x33 =>
    if x33=true then
     (wAx p0.Bibs wAs).bind fun x48 =>
     if x48=true then
      (wBT p0.Times wAt).bind fun x64 =>
      if x64=true then
       (wBs p0.Bibs).bind fun x79 =>
       if x79=true then
        some 5
       else
        jn (wFE 0 (↑p0.Times.length:Int) (fun k97 _ =>
         (idx p0.Times (↑k97:Int)).bind fun x116 =>
         jn (wFE 1 (↑x116.length:Int) (fun k132 _ =>
          (idx x116 (1 + ↑k132:Int)).bind fun x155 =>
          (idx x116 (w64 ((1 + ↑k132:Int) - 1))).bind fun x163 =>
          if x155 <= x163 then
           esc (esc (some 4))
          else
           some (.inl ())) ()) fun _ =>
         some (.inl ())) ()) fun _ =>
        some 0
      else
       some 3
     else
      some 3
    else
     some 2
   else
    some 2
 else
  some 2
def wAU (p0:Int) (p1:Int) (p2:Int):Option (Bool) :=
 if p0 < p1 then
  some true
 else
  some (decide (p2 < p0))
def wAo (p0:List Int):Option (Bool) :=
 jn (wFE 0 (↑p0.length:Int) (fun k2 _ =>
  jn (wFE 0 (↑k2:Int) (fun k21 _ =>
   (idx p0 (↑k2:Int)).bind fun x42 =>
   (idx p0 (↑k21:Int)).bind fun x51 =>
   if x42=x51 then
    esc (esc (some true))
   else
    some (.inl ())) ()) fun _ =>
  some (.inl ())) ()) fun _ =>
 some false
def wAT (p0:wAH):Option (Int) :=
 (wAU p0.Laps 1 20).bind fun x5 =>
 if x5=true then
  some 2
 else
  if 60 < (↑p0.Bibs.length:Int) then
   some 2
  else
   if (↑p0.Times.length:Int)=(↑p0.Bibs.length:Int) then
    iter (fun x26 =>
     if x26 < (↑p0.Times.length:Int) then
      (idx p0.Times x26).bind fun x43 =>
      if p0.Laps < (↑x43.length:Int) then
       esc (some 2)
      else
       some (.inl (w64 (x26 + 1)))
     else
      esc (iter (fun x71 =>
       if x71 < (↑p0.Bibs.length:Int) then
        (idx p0.Bibs x71).bind fun x86 =>
        (wAU x86 1 999).bind fun x96 =>
        if x96=true then
         esc (some 3)
        else
         iter (fun x115 =>
          (idx p0.Times x71).bind fun x129 =>
          if x115 < (↑x129.length:Int) then
           (idx x129 x115).bind fun x157 =>
           (wAU x157 0 360000).bind fun x164 =>
           if x164=true then
            esc (esc (some 3))
           else
            some (.inl (w64 (x115 + 1)))
          else
           esc (some (.inl (w64 (x71 + 1))))) big 0
       else
        esc ((wAo p0.Bibs).bind fun x196 =>
        if x196=true then
         some 5
        else
         iter (fun x212 =>
          if x212 < (↑p0.Times.length:Int) then
           iter (fun x230 =>
            (idx p0.Times x212).bind fun x244 =>
            if x230 < (↑x244.length:Int) then
             (idx x244 x230).bind fun x275 =>
             (idx x244 (w64 (x230 - 1))).bind fun x291 =>
             if x275 <= x291 then
              esc (esc (some 4))
             else
              some (.inl (w64 (x230 + 1)))
            else
             esc (some (.inl (w64 (x212 + 1))))) big 1
          else
           esc (some 0)) big 0)) big 0)) big 0
   else
    some 2
def wAw (p0:List Int) (p1:Int):Option ((List Int)) :=
 if p1 < 0 then
  none
 else
  if 0 < (w64 (p1 - 0)) then
   (appZ 8 (w64 (p1 - 0)) (0:Int)).bind fun x6 =>
   some ([]:List Int)
  else
   some []
def wAq (p0:List (List Int)):Option ((List Int)) :=
 (wBu 0 (↑p0.length:Int) (fun k7 x6 =>
  (idx p0 (↑k7:Int)).bind fun x29 =>
  if (w64 (x6 + (↑x29.length:Int))) < 0 then
   none
  else
   some (w64 (x6 + (↑x29.length:Int)))) 0).bind fun y12 =>
 (wAw [] y12).bind fun x59 =>
 (wBu 0 (↑p0.length:Int) (fun k86 l83 =>
  (idx p0 (↑k86:Int)).bind fun x107 =>
  (app 8 l83 x107).bind fun x122 =>
  some x122) x59).bind fun y91 =>
 some y91
def wBP (p0:List Int):Option (List Int):=wMC p0
def wAy (p0:List Int):Option (List Int):=wEq p0
def wAY {S E:Type} (f:S->Int->Option (S ⊕ E)) (s0:S) (p1:List Int):Option (S ⊕ E) :=
 jn (wFE 0 (↑p1.length:Int) (fun k12 s10 =>
  (idx p1 (↑k12:Int)).bind fun x33 =>
  (f s10 x33).bind fun yr41 =>
  match yr41 with
  | .inl s51 =>
   some (.inl s51)
  | .inr s51 =>
   esc (some (.inr s51))) s0) fun y65 =>
 some (.inl y65)
def wBH (p0:List Int):Option (Unit) :=
 some ()
def wAz (p0:wAA):Option ((List Int)) :=
 (wAq p0.Times).bind fun x5 =>
 (wBP x5).bind fun x18 =>
 (wAy x18).bind fun x29 =>
 (wBH x29).bind fun _ =>
 some x29
def wAg (p0:wAD) (p1:Int) (p2:Int) (p3:Int):Option (Int) :=
 (wBu 0 (↑p0.done.length:Int) (fun k7 x6 =>
  ((idx p0.done (↑k7:Int)).bind fun x35 =>
  (idx p0.out (↑k7:Int)).bind fun x46 =>
  if x46=true then
   some x6
  else
   if (w64 (p2 + 2)) <= x35 then
    (idx p0.Race.Times (↑k7:Int)).bind fun x60 =>
    (idx x60 (w64 (x35 - 1))).bind fun x73 =>
    if x73=p3 then
     if x6 < 0 then
      some (↑k7:Int)
     else
      (idx p0.Race.Bibs (↑k7:Int)).bind fun x96 =>
      (idx p0.Race.Bibs x6).bind fun x104 =>
      if x96 < x104 then
       some (↑k7:Int)
      else
       some x6
    else
     some x6
   else
    some x6).bind fun x31 =>
  some x31) (-1)).bind fun y12 =>
 some y12
def wAh (p0:wAD) (p1:Int):Option ((List Int) × wAD) :=
 (wBu 0 (↑p0.Race.Times.length:Int) (fun k10 l9 =>
  (idx p0.Race.Times (↑k10:Int)).bind fun x33 =>
  (chk (↑k10:Int) l9.length).bind fun _ =>
  (chk (↑k10:Int) p0.out.length).bind fun _ =>
  if (gd p0.out k10)=true then
   some l9
  else
   if (gd l9 k10) < (↑x33.length:Int) then
    (idx x33 (gd l9 k10)).bind fun x62 =>
    if x62=p1 then
     some (nV l9 k10 (w64 ((gd l9 k10) + 1)))
    else
     some l9
   else
    some l9) p0.done).bind fun y15 =>
 (wBu 0 (↑y15.length:Int) (fun k121 l117 =>
  (chk (↑k121:Int) y15.length).bind fun _ =>
  (chk (↑k121:Int) p0.out.length).bind fun _ =>
  if (gd p0.out k121)=true then
   some l117
  else
   (wAg (⟨p0.Race,y15,p0.out⟩:wAD) (↑k121:Int) (gd y15 k121) p1).bind fun x193 =>
   if 0 <= x193 then
    (app 8 l117 [(↑k121:Int)]).bind fun x222 =>
    some x222
   else
    some l117) []).bind fun y126 =>
 some (y126,(⟨p0.Race,y15,p0.out⟩:wAD))
noncomputable def wAS (p0:List wAC) (p1:((wAC × wAC)->Option Int)):Option (List wAC):=wKV p1 p0
def wBg (p0:Int):Option (Bool) :=
 some (decide (¬ (p0=p0)))
def wBJ (p0:Int) (p1:Int):Option (Int) :=
 (wBg p0).bind fun x1 =>
 (wBg p1).bind fun x11 =>
 if x1=true then
  if x11=true then
   some 0
  else
   some (-1)
 else
  if x11=true then
   some 1
  else
   if p0 < p1 then
    some (-1)
   else
    if p1 < p0 then
     some 1
    else
     some 0
def wCK (p0:List Int):Option (Int) :=
 jn (wFE 0 (↑p0.length:Int) (fun k2 _ =>
  (idx p0 (↑k2:Int)).bind fun x22 =>
  if x22=0 then
   some (.inl ())
  else
   esc (some x22)) ()) fun _ =>
 some 0
def wAc (p0:wAC) (p1:wAC):Option (Int) :=
 (wBJ p0.Time p1.Time).bind fun x11 =>
 (wBJ p0.Bib p1.Bib).bind fun x21 =>
 (wCK [x11,x21]).bind fun x41 =>
 some x41
def wCA (p0:wAA):Option (wAD × (List wAC)) :=
 ((mkz 8 (↑p0.Bibs.length:Int) (0:Int)).bind fun x18 =>
 (mkz 1 (↑p0.Bibs.length:Int) false).bind fun x26 =>
 some (x18,x26)).bind fun (l9,l12) =>
 (wAz p0).bind fun x520 =>
 (wAY (S:=(List wAC) × Int × (List Int) × (List (List Int)) × (List Int) × (List Bool)) (E:=Empty) (fun (l1081,x1085,l1086,l1089,l1092,l1095) x1124 =>
  (wAh (⟨(⟨x1085,l1086,l1089⟩:wAA),l1092,l1095⟩:wAD) x1124).bind fun (x1150,x1151) =>
  (wBu 0 (↑x1150.length:Int) (fun k1191 l1188 =>
   (chk (↑k1191:Int) x1150.length).bind fun _ =>
   (idx x1151.Race.Bibs (gd x1150 k1191)).bind fun x1222 =>
   (chk (gd x1150 k1191) x1151.done.length).bind fun _ =>
   (wAg x1151 (gd x1150 k1191) (gd x1151.done (gd x1150 k1191).toNat) x1124).bind fun x1264 =>
   (idx x1151.Race.Bibs x1264).bind fun x1286 =>
   (app 32 l1188 [(⟨x1222,(gd x1151.done (gd x1150 k1191).toNat),x1124,x1286⟩:wAC)]).bind fun x1299 =>
   some x1299) l1081).bind fun y1196 =>
  (wBu 0 (↑x1150.length:Int) (fun k1338 l1337 =>
   (chk (↑k1338:Int) x1150.length).bind fun _ =>
   (chk (gd x1150 k1338) l1337.length).bind fun _ =>
   some (nV l1337 (gd x1150 k1338).toNat true)) x1151.out).bind fun y1343 =>
  some (.inl (y1196,x1151.Race.Laps,x1151.Race.Bibs,x1151.Race.Times,x1151.done,y1343))) ([],p0.Laps,p0.Bibs,p0.Times,l9,l12) x520).bind fun rr1118 =>
 match rr1118 with
 | .inl (y1416,y1417,y1418,y1419,y1420,y1421) =>
  (wAS y1416 (fun x=>wAc x.1 x.2)).bind fun x1438 =>
  some ((⟨(⟨y1417,y1418,y1419⟩:wAA),y1420,y1421⟩:wAD),x1438)
 | .inr e1432 =>
  e1432.elim
def wBb (p0:wAA):Option ((List wAC) × Int) :=
 (wAu p0).bind fun x5 =>
 if x5=0 then
  (wCA p0).bind fun (x19,x20) =>
  some (x20,0)
 else
  some ([],x5)
def wAM (p0:List Int) (p1:Int) (p2:Int):Option (Int) :=
 (wBu 0 (↑p0.length:Int) (fun k7 x6 =>
  (idx p0 (↑k7:Int)).bind fun x29 =>
  if x29 <= p1 then
   if p2 < 0 then
    some (w64 (x6 + 1))
   else
    if x29 <= p2 then
     some (w64 (x6 + 1))
    else
     some x6
  else
   some x6) 0).bind fun y12 =>
 some y12
def wBA (p0:wAH):Option ((List wAJ) × (List Int)) :=
 (mkz 8 (↑p0.Bibs.length:Int) (0:Int)).bind fun x5 =>
 iter (fun (l19,x20) =>
  if x20 < (↑l19.length:Int) then
   (chk x20 l19.length).bind fun _ =>
   some (.inl ((nV l19 x20.toNat (-1)),w64 (x20 + 1)))
  else
   esc (iter (fun (l66,l67,x71) =>
    iter (fun (x95,x96) =>
     if x96 < (↑p0.Times.length:Int) then
      iter (fun (x121,x122) =>
       (idx p0.Times x96).bind fun x140 =>
       if x122 < (↑x140.length:Int) then
        (idx x140 x122).bind fun x167 =>
        if x71 < x167 then
         if x121 < 0 then
          some (.inl (x167,w64 (x122 + 1)))
         else
          if x167 < x121 then
           some (.inl (x167,w64 (x122 + 1)))
          else
           some (.inl (x121,w64 (x122 + 1)))
        else
         some (.inl (x121,w64 (x122 + 1)))
       else
        esc (some (.inl (x121,w64 (x96 + 1))))) big (x95,0)
     else
      esc (if x95 < 0 then
       esc (some (l67,l66))
      else
       iter (fun (l221,x225) =>
        if x225 < (↑p0.Bibs.length:Int) then
         (chk x225 l66.length).bind fun _ =>
         if 0 <= (gd l66 x225.toNat) then
          some (.inl (l221,w64 (x225 + 1)))
         else
          (idx p0.Times x225).bind fun x257 =>
          (wAM x257 x95 (-1)).bind fun x273 =>
          iter (fun (x289,x290) =>
           if x290 < (↑p0.Bibs.length:Int) then
            ((idx p0.Times x290).bind fun x319 =>
            (chk x290 l66.length).bind fun _ =>
            (wAM x319 x95 (gd l66 x290.toNat)).bind fun x336 =>
            if (gd l66 x290.toNat) < 0 then
             if (w64 (x273 + 2)) <= x336 then
              (idx x319 (w64 (x336 - 1))).bind fun x374 =>
              if x374=x95 then
               if x289=0 then
                (idx p0.Bibs x290).bind fun x385 =>
                some x385
               else
                (idx p0.Bibs x290).bind fun x401 =>
                if x401 < x289 then
                 some x401
                else
                 some x289
              else
               some x289
             else
              some x289
            else
             some x289).bind fun x313 =>
            some (.inl (x313,w64 (x290 + 1)))
           else
            esc (if 0 < x289 then
             (idx p0.Bibs x225).bind fun x453 =>
             (app 32 l221 [(⟨x453,x273,x95,x289⟩:wAJ)]).bind fun x471 =>
             some (.inl (x471,w64 (x225 + 1)))
            else
             some (.inl (l221,w64 (x225 + 1))))) big (0,0)
        else
         esc (iter (fun (l513,l514,l517) =>
          if 0 < (↑l517.length:Int) then
           (wBu 1 (↑l517.length:Int) (fun k545 x544 =>
            (chk (1 + ↑k545:Int) l517.length).bind fun _ =>
            (chk x544 l517.length).bind fun _ =>
            if ((gd l517 (1 + ↑k545:Int).toNat).Bib) < ((gd l517 x544.toNat).Bib) then
             some (1 + ↑k545:Int)
            else
             some x544) 0).bind fun y550 =>
           (chk y550 l517.length).bind fun _ =>
           (app 32 l514 [(gd l517 y550.toNat)]).bind fun x611 =>
           iter (fun (l625,x626) =>
            if x626 < (↑p0.Bibs.length:Int) then
             (idx p0.Bibs x626).bind fun x650 =>
             if x650=((gd l517 y550.toNat).Bib) then
              (chk x626 l625.length).bind fun _ =>
              some (.inl ((nV l625 x626.toNat x95),w64 (x626 + 1)))
             else
              some (.inl (l625,w64 (x626 + 1)))
            else
             esc ((cut l517 0 y550).bind fun x684 =>
             (cut l517 (w64 (y550 + 1)) (↑(l517.length):Int)).bind fun x693 =>
             (app 32 x684 x693).bind fun x709 =>
             some (.inl (l625,x611,x709)))) big (l513,0)
          else
           esc (some (.inl (l513,l514,x95)))) big (l66,l67,l221))) big ([],0))) big (-1,0)) big (l19,[],-1))) big (x5,0)
def wAp (p0:wAH):Option ((List wAJ) × Int) :=
 (wAT p0).bind fun x5 =>
 if x5=0 then
  (wBA p0).bind fun (x19,x20) =>
  some (x19,0)
 else
  some ([],x5)
def wBM (p0:wAA):Option ((List Int) × Int) :=
 (wAu p0).bind fun x5 =>
 if x5=0 then
  (wCA p0).bind fun (x19,x20) =>
  some (x19.done,0)
 else
  some ([],x5)
def wAl (p0:wAH):Option ((List Int) × Int) :=
 (wAT p0).bind fun x5 =>
 if x5=0 then
  (wBA p0).bind fun (x19,x20) =>
  (mkz 8 (↑p0.Bibs.length:Int) (0:Int)).bind fun x36 =>
  iter (fun (l50,x51) =>
   if x51 < (↑l50.length:Int) then
    (idx p0.Times x51).bind fun x71 =>
    (chk x51 x20.length).bind fun _ =>
    (wAM x71 360000 (gd x20 x51.toNat)).bind fun x90 =>
    (chk x51 l50.length).bind fun _ =>
    some (.inl ((nV l50 x51.toNat x90),w64 (x51 + 1)))
   else
    esc (some (l50,0))) big (x36,0)
 else
  some ([],x5)
def wAb (p0:List Int) (p1:List Int):Option (Bool) :=
 if (↑p0.length:Int)=(↑p1.length:Int) then
  jn (wFE 0 (↑p0.length:Int) (fun k4 _ =>
   (idx p0 (↑k4:Int)).bind fun x26 =>
   (idx p1 (↑k4:Int)).bind fun x34 =>
   if x26=x34 then
    some (.inl ())
   else
    esc (some false)) ()) fun _ =>
  some true
 else
  some false
def wAm (p0:List (List Int)) (p1:List (List Int)):Option (Bool) :=
 if (↑p0.length:Int)=(↑p1.length:Int) then
  jn (wFE 0 (↑p0.length:Int) (fun k4 _ =>
   (idx p0 (↑k4:Int)).bind fun x26 =>
   (idx p1 (↑k4:Int)).bind fun x39 =>
   (wAb x26 x39).bind fun x52 =>
   if x52=true then
    some (.inl ())
   else
    esc (some false)) ()) fun _ =>
  some true
 else
  some false
def wBB (p0:wAA):Option (Bool) :=
 if 64 < (↑p0.Bibs.length:Int) then
  (wBF).bind fun x7 =>
  some x7
 else
  if 64 < (↑p0.Times.length:Int) then
   (wBF).bind fun x20 =>
   some x20
  else
   jn (wFE 0 (↑p0.Times.length:Int) (fun k32 _ =>
    (idx p0.Times (↑k32:Int)).bind fun x52 =>
    if 24 < (↑x52.length:Int) then
     (wBF).bind fun x67 =>
     esc (some x67)
    else
     some (.inl ())) ()) fun _ =>
   (wAf p0).bind fun x95 =>
   ((wAa p0.Bibs).bind fun x133 =>
   (wAX p0.Times).bind fun x148 =>
   some (x133,x148)).bind fun (l122,l125) =>
   (wAu x95).bind fun x315 =>
   (wAT (⟨p0.Laps,l122,l125⟩:wAH)).bind fun x340 =>
   if x315=x340 then
    (wBb x95).bind fun (x360,x361) =>
    (wAp (⟨p0.Laps,l122,l125⟩:wAH)).bind fun (x378,x379) =>
    if x361=x379 then
     if (↑x360.length:Int)=(↑x378.length:Int) then
      jn (wFE 0 (↑x360.length:Int) (fun k398 _ =>
       (chk (↑k398:Int) x360.length).bind fun _ =>
       (chk (↑k398:Int) x378.length).bind fun _ =>
       if (⟨(gd x360 k398).Bib,(gd x360 k398).Done,(gd x360 k398).Time,(gd x360 k398).By⟩:wAJ)=(gd x378 k398) then
        some (.inl ())
       else
        esc (some false)) ()) fun _ =>
      (wBM x95).bind fun (x460,x461) =>
      (wAl (⟨p0.Laps,l122,l125⟩:wAH)).bind fun (x480,x481) =>
      if x461=x481 then
       (wAb x460 x480).bind fun x515 =>
       if x515=true then
        if x95.Laps=p0.Laps then
         (wAb x95.Bibs p0.Bibs).bind fun x550 =>
         if x550=true then
          (wAm x95.Times p0.Times).bind fun x585 =>
          if x585=true then
           (wBF).bind fun x597 =>
           some x597
          else
           some false
         else
          some false
        else
         some false
       else
        some false
      else
       some false
     else
      some false
    else
     some false
   else
    some false
end
end Go.Proofs.YtbpllbhagaoocaaGreat
namespace Go.Proofs.YtbpllbhagaoocaaGreat
open Go.KL
def cn (l:List Int) (t:Int):Nat:=l.countP fun x=>decide (x <= t)
theorem wGA (l:List Int) (t:Int):cn l t <= l.length:=kA
theorem wOe (l:List Int) {s t:Int} (h:s <= t):cn l s <= cn l t:=kB fun x _ hx=>by simp at hx ⊢;omega
theorem wLX:∀ {l:List Int} {t:Int} {k:Nat},l.Pairwise (· < ·)->k < l.length->(k < cn l t ↔ gd l k <= t)
 | [],t,k,_,hk=>by simp at hk
 | a :: l,t,0,h,_=>by
  show 0 < cn (a :: l) t ↔ a <= t
  unfold cn
  rw [nc]
  by_cases c:a <= t
  ·simp [c]
  ·simp only [c,decide_false,kJ,if_false,Nat.add_zero,iff_false]
   have:l.countP (fun x=>decide (x <= t))=0:=nl.2 fun x hx=>by
    have:=(np.1 h).1 x hx
    simp;omega
   omega
 | a :: l,t,k + 1,h,hk=>by
  show k + 1 < cn (a :: l) t ↔ gd l k <= t
  have hk':k < l.length:=by simpa using hk
  have ih:=wLX (t:=t) (np.1 h).2 hk'
  rw [<- ih]
  unfold cn
  rw [nc]
  by_cases c:a <= t
  ·simp [c]
  ·have h1:l.countP (fun x=>decide (x <= t))=0:=nl.2 fun x hx=>by
    have:=(np.1 h).1 x hx
    simp;omega
   simp [c,h1]
theorem wPw {l:List Int} (h:l.Pairwise (· < ·)) {k:Nat} (hk:k < l.length):cn l (gd l k)=k + 1:=by
 have h1:=(wLX (t:=gd l k) h hk).2 (nJ _)
 have h2:=wGA l (gd l k)
 by_cases e:k + 1=l.length
 ·omega
 ·have h3:=mt (wLX (t:=gd l k) (k:=k + 1) h (by omega)).1
  have h4:gd l k < gd l (k + 1):=by
   have:=nE.1 h k (k + 1) hk (by omega) (by omega)
   rwa [<- wBa hk,<- wBa (by omega)] at this
  have:=h3 (by omega)
  omega
theorem wNW {l:List Int} (h:l.Pairwise (· < ·)) {t:Int} (ht:t ∈ l):0 < cn l t/\cn l t <= l.length/\gd l (cn l t - 1)=t:=by
 obtain ⟨k,hk,e⟩:=nH ht
 have e':gd l k=t:=by rw [wBa hk,e]
 have:=wPw h hk
 rw [e'] at this
 refine ⟨by omega,wGA _ _,?_⟩
 rw [this];exact e'
theorem wOf {l:List Int} (h:l.Pairwise (· < ·)) {s t:Int} (hst:s < t) (hno:∀ x ∈ l,s < x->t <= x) :
  cn l t=if cn l s < l.length/\gd l (cn l s)=t then cn l s + 1 else cn l s:=by
 have h0:=wGA l s
 have hm:=wOe l (show s <= t by omega)
 by_cases hl:cn l s < l.length
 ·have h1:s < gd l (cn l s):=by
   have:=mt (wLX (t:=s) h hl).2 (by omega)
   omega
  have h2:=hno _ (wAO hl) h1
  by_cases e:gd l (cn l s)=t
  ·rw [if_pos ⟨hl,e⟩]
   have:=wPw h hl
   rw [e] at this
   exact this
  ·rw [if_neg (fun c=>e c.2)]
   have:=mt (wLX (t:=t) h hl).1 (by omega)
   omega
 ·rw [if_neg (fun c=>hl c.1)]
  have:=wGA l t
  omega
def Lp (p:wAD) (d time:Int) (j:Nat):Prop:=j < p.done.length/\gd p.out j=false/\d + 2 <= gd p.done j/\gd (gd p.Race.Times j) ((gd p.done j) - 1).toNat=time
structure wHf (p:wAD):Prop where
 n:p.done.length <= 60
 o:p.out.length=p.done.length
 b:p.Race.Bibs.length=p.done.length
 t:p.Race.Times.length=p.done.length
 d0:∀ i,i < p.done.length->0 <= gd p.done i/\gd p.done i <= (gd p.Race.Times i).length
 len:∀ l ∈ p.Race.Times,l.length <= 1000
def ByP (p:wAD) (d time:Int) (n:Nat) (x:Int):Prop :=
 (x=-1/\∀ j,j < n->¬ Lp p d time j) \/ ∃ j:Nat,x=j/\j < n/\Lp p d time j/\∀ i,i < n->Lp p d time i->gd p.Race.Bibs j <= gd p.Race.Bibs i
theorem wCt {S:Type} {body:Nat->S->Option S} {n:Nat} {s0:S} (I:Nat->S->Prop) (hn:n <= 1000) (h0:I 0 s0) (h:∀ i s,i < n->I i s->∃ s',body i s=some s'/\I (i + 1) s'):∃ s,wBu 0 (n:Int) body s0=some s/\I n s:=by
 rw [wGT (by omega)]
 have:=wFn (body:=body) I n 0 s0 h0 fun i s _ h2 h3=>h i s (by omega) h3
 rwa [Nat.zero_add] at this
theorem wPx {p:wAD} (G:wHf p) (i d time:Int) (hd0:0 <= d) (hd1:d <= 1000):∃ x,wAg p i d time=some x/\ByP p d time p.done.length x:=by
 unfold wAg
 have hn:=G.n
 obtain ⟨x,e,hx⟩:=wCt (body:=fun (k10:Nat) (x9:Int) =>
  ((idx p.done (↑k10:Int)).bind fun x35 =>
  (idx p.out (↑k10:Int)).bind fun x46 =>
  if x46=true then
   some x9
  else
   if (w64 (d + 2)) <= x35 then
    (idx p.Race.Times (↑k10:Int)).bind fun x60 =>
    (idx x60 (w64 (x35 - 1))).bind fun x73 =>
    if x73=time then
     if x9 < 0 then
      some (↑k10:Int)
     else
      (idx p.Race.Bibs (↑k10:Int)).bind fun x92 =>
      (idx p.Race.Bibs x9).bind fun x100 =>
      if x92 < x100 then
       some (↑k10:Int)
      else
       some x9
    else
     some x9
   else
    some x9).bind fun x34 =>
  some x34) (n:=p.done.length) (s0:=(-1:Int)) (fun k x=>ByP p d time k x) (by omega) (.inl ⟨rfl,fun j hj=>by omega⟩) (fun k x hk hx=>by
   have hd:=G.d0 k hk
   have ho:=G.o
   have hb:=G.b
   have ht:=G.t
   have hll:=G.len _ (wAO (l:=p.Race.Times) (k:=k) (by omega))
   simp only [wOd]
   rw [wAN hk,nA,wAN (by omega),nA,wAe (by omega) (by omega)]
   have skip:¬ Lp p d time k->ByP p d time (k + 1) x:=fun hno=>by
    rcases hx with ⟨h1,h2⟩ | ⟨j,h1,h2,h3,h4⟩
    ·exact .inl ⟨h1,fun j hj=>by
      by_cases e:j=k
      ·exact e ▸ hno
      ·exact h2 j (by omega)⟩
    ·exact .inr ⟨j,h1,by omega,h3,fun i hi hL=>by
      by_cases e:i=k
      ·exact absurd (e ▸ hL) hno
      ·exact h4 i (by omega) hL⟩
   by_cases c1:gd p.out k=true
   ·rw [if_pos c1]
    exact ⟨x,rfl,skip fun h=>by have:=h.2.1;rw [c1] at this;exact nf this⟩
   rw [if_neg c1]
   by_cases c2:d + 2 <= gd p.done k
   ·have e1:(gd p.done k) - 1=((((gd p.done k) - 1).toNat:Nat):Int):=by omega
    rw [if_pos c2,wAN (by omega),nA,wAe (by omega) (by omega),e1,wAN (by omega),nA]
    by_cases c3:gd (gd p.Race.Times k) ((gd p.done k) - 1).toNat=time
    ·have hL:Lp p d time k:=⟨hk,by simpa using c1,c2,c3⟩
     rw [if_pos c3]
     rcases hx with ⟨h1,h2⟩ | ⟨j,h1,h2,h3,h4⟩
     ·rw [if_pos (by omega)]
      exact ⟨_,rfl,.inr ⟨k,rfl,by omega,hL,fun i hi hL'=>by
       by_cases e:i=k
       ·subst e;exact nJ _
       ·exact absurd hL' (h2 i (by omega))⟩⟩
     ·subst h1
      rw [if_neg (by omega),wAN (by omega),nA,wAN (by omega),nA]
      by_cases c4:gd p.Race.Bibs k < gd p.Race.Bibs j
      ·rw [if_pos c4]
       exact ⟨_,rfl,.inr ⟨k,rfl,by omega,hL,fun i hi hL'=>by
        by_cases e:i=k
        ·subst e;exact nJ _
        ·have:=h4 i (by omega) hL'
         omega⟩⟩
      ·rw [if_neg c4]
       exact ⟨_,rfl,.inr ⟨j,rfl,by omega,h3,fun i hi hL'=>by
        by_cases e:i=k
        ·subst e;omega
        ·exact h4 i (by omega) hL'⟩⟩
    ·rw [if_neg c3]
     exact ⟨x,rfl,skip fun h=>c3 h.2.2.2⟩
   ·rw [if_neg c2]
    exact ⟨x,rfl,skip fun h=>c2 h.2.2.1⟩)
 rw [e,nA]
 exact ⟨x,rfl,hx⟩
end Go.Proofs.YtbpllbhagaoocaaGreat
namespace Go.Proofs.YtbpllbhagaoocaaGreat
open Go.KL
def nx (p:wAD) (t:Int) (i:Nat):Int:=if gd p.out i=false/\gd p.done i < (gd p.Race.Times i).length/\gd (gd p.Race.Times i) (gd p.done i).toNat=t then gd p.done i + 1 else gd p.done i
def st1 (p0:wAD) (p1:Int):Nat->List Int->Option (List Int):=fun k10 l9 =>
  (idx p0.Race.Times (↑k10:Int)).bind fun x33 =>
  (chk (↑k10:Int) l9.length).bind fun _ =>
  (chk (↑k10:Int) p0.out.length).bind fun _ =>
  if (gd p0.out k10)=true then
   some l9
  else
   if (gd l9 k10) < (↑x33.length:Int) then
    (idx x33 (gd l9 k10)).bind fun x62 =>
    if x62=p1 then
     some (nV l9 k10 (w64 ((gd l9 k10) + 1)))
    else
     some l9
   else
    some l9
def st2 (p0:wAD) (p1:Int) (y15:List Int):Nat->List Int->Option (List Int):=fun k121 l117 =>
  (chk (↑k121:Int) y15.length).bind fun _ =>
  (chk (↑k121:Int) p0.out.length).bind fun _ =>
  if (gd p0.out k121)=true then
   some l117
  else
   (wAg (⟨p0.Race,y15,p0.out⟩:wAD) (↑k121:Int) (gd y15 k121) p1).bind fun x193 =>
   if 0 <= x193 then
    (app 8 l117 [(↑k121:Int)]).bind fun x222 =>
    some x222
   else
    some l117
theorem wIZ (p0:wAD) (p1:Int):wAh p0 p1=(wBu 0 (↑p0.Race.Times.length:Int) (st1 p0 p1) p0.done).bind fun y =>
 (wBu 0 (↑y.length:Int) (st2 p0 p1 y) []).bind fun z=>some (z,(⟨p0.Race,y,p0.out⟩:wAD)):=rfl
theorem wPy {p:wAD} (G:wHf p) (t:Int):∃ y,wBu 0 (↑p.Race.Times.length:Int) (st1 p t) p.done=some y/\y.length=p.done.length/\∀ i,i < p.done.length->gd y i=nx p t i:=by
 have hn:=G.n
 have ho:=G.o
 have ht:=G.t
 obtain ⟨y,e,h1,h2⟩:=wCt (body:=st1 p t) (n:=p.Race.Times.length) (s0:=p.done) (fun k y=>y.length=p.done.length/\∀ i,i < p.done.length->gd y i=if i < k then nx p t i else gd p.done i) (by omega) ⟨rfl,fun i _=>by rw [if_neg (by omega)]⟩ (fun k y hk ⟨h1,h2⟩=>by
  have hk':k < p.done.length:=by omega
  have hd:=G.d0 k hk'
  have hll:=G.len _ (wAO (l:=p.Race.Times) (k:=k) hk)
  have hyk:gd y k=gd p.done k:=by rw [h2 k hk',if_neg (by omega)]
  have keep:nx p t k=gd p.done k->∀ i,i < p.done.length->gd y i=if i < k + 1 then nx p t i else gd p.done i:=fun e i hi=>by
   rw [h2 i hi]
   by_cases c:i=k
   ·subst c
    rw [if_neg (by omega),if_pos (by omega),e]
   ·by_cases c2:i < k
    ·rw [if_pos c2,if_pos (by omega)]
    ·rw [if_neg c2,if_neg (by omega)]
  unfold st1
  rw [wAN hk,nA,wBp (by omega) (by omega),nA,wBp (by omega) (by omega),nA,hyk]
  by_cases c1:gd p.out k=true
  ·rw [if_pos c1]
   exact ⟨y,rfl,h1,keep (if_neg (fun h=>by rw [c1] at h;exact nf h.1))⟩
  have c1':gd p.out k=false:=by simpa using c1
  rw [if_neg c1]
  by_cases c2:gd p.done k < ((gd p.Race.Times k).length:Int)
  ·have e1:idx (gd p.Race.Times k) (gd p.done k)=some (gd (gd p.Race.Times k) (gd p.done k).toNat):=by
    unfold idx
    rw [if_pos hd.1,wBX (by omega)]
   rw [if_pos c2,e1,nA]
   by_cases c3:gd (gd p.Race.Times k) (gd p.done k).toNat=t
   ·have en:nx p t k=gd p.done k + 1:=if_pos ⟨c1',c2,c3⟩
    rw [if_pos c3,wAe (by omega) (by omega)]
    refine ⟨_,rfl,by simpa using h1,fun i hi=>?_⟩
    rw [wGU (by omega) (by omega)]
    by_cases c:i=k
    ·subst c
     rw [if_pos rfl,if_pos (by omega),en]
    ·rw [if_neg c,h2 i hi]
     by_cases c4:i < k
     ·rw [if_pos c4,if_pos (by omega)]
     ·rw [if_neg c4,if_neg (by omega)]
   ·rw [if_neg c3]
    exact ⟨y,rfl,h1,keep (if_neg (fun h=>c3 h.2.2))⟩
  ·rw [if_neg c2]
   exact ⟨y,rfl,h1,keep (if_neg (fun h=>c2 h.2.1))⟩)
 exact ⟨y,e,h1,fun i hi=>by rw [h2 i hi,if_pos (by omega)]⟩
theorem nx_le {p:wAD} (G:wHf p) (t:Int) {i:Nat} (hi:i < p.done.length):0 <= nx p t i/\nx p t i <= (gd p.Race.Times i).length:=by
 have:=G.d0 i hi
 unfold nx
 split <;> omega
theorem wOg {p:wAD} (G:wHf p) (t:Int):∃ z y,wAh p t=some (z,(⟨p.Race,y,p.out⟩:wAD))/\y.length=p.done.length/\(∀ i,i < p.done.length->gd y i=nx p t i)/\wHf (⟨p.Race,y,p.out⟩:wAD) /\
  z.Pairwise (· < ·)/\∀ x,x ∈ z ↔ ∃ i:Nat,x=i/\i < p.done.length/\gd p.out i=false/\∃ j,Lp (⟨p.Race,y,p.out⟩:wAD) (gd y i) t j:=by
 rw [wIZ]
 have hn:=G.n
 obtain ⟨y,e,h1,h2⟩:=wPy G t
 rw [e,nA]
 have G':wHf (⟨p.Race,y,p.out⟩:wAD):=⟨by show y.length <= 60;omega,by show p.out.length=y.length;rw [h1];exact G.o,by show p.Race.Bibs.length=y.length;rw [h1];exact G.b,by show p.Race.Times.length=y.length;rw [h1];exact G.t,fun i hi=>by
  have hi':i < p.done.length:=by rw [<- h1];exact hi
  show 0 <= gd y i/\gd y i <= _
  rw [h2 i hi']
  exact nx_le G t hi',G.len⟩
 obtain ⟨z,ez,z1,z2⟩:=wCt (body:=st2 p t y) (n:=y.length) (s0:=[]) (fun k z=>z.Pairwise (· < ·)/\∀ x,x ∈ z ↔ ∃ i:Nat,x=i/\i < k/\gd p.out i=false/\∃ j,Lp (⟨p.Race,y,p.out⟩:wAD) (gd y i) t j) (by omega) ⟨nr,fun x=>by simp⟩ (fun k z hk ⟨z1,z2⟩=>by
  have hk':k < p.done.length:=by omega
  have ho:=G.o
  have hyk:=G'.d0 k hk
  have hll:=G.len _ (wAO (l:=p.Race.Times) (k:=k) (by have:=G.t;omega))
  have hzl:z.length <= k:=by
   have hsub:∀ x ∈ z,0 <= x/\x < k:=fun x hx=>by
    obtain ⟨i,rfl,hi,_⟩:=(z2 x).1 hx
    omega
   rcases kK k z.length with c | c
   ·exfalso
    have key:∀ (m:Nat),m < z.length->(m:Int) <= gd z m:=by
     intro m
     induction m with
     | zero=>intro hm;exact (hsub _ (wAO hm)).1
     | succ m ih =>
      intro hm
      have h3:=ih (by omega)
      have h4:=nE.1 z1 m (m + 1) (by omega) hm (by omega)
      rw [<- wBa (by omega),<- wBa hm] at h4
      omega
    have h5:=key k c
    have h6:=(hsub _ (wAO c)).2
    omega
   ·exact c
  have skip:¬ (gd p.out k=false/\∃ j,Lp (⟨p.Race,y,p.out⟩:wAD) (gd y k) t j)->∀ x,x ∈ z ↔ ∃ i:Nat,x=i/\i < k + 1/\gd p.out i=false/\∃ j,Lp (⟨p.Race,y,p.out⟩:wAD) (gd y i) t j:=fun hno x=>by
   rw [z2]
   constructor
   ·rintro ⟨i,h1,h2,h3⟩
    exact ⟨i,h1,by omega,h3⟩
   ·rintro ⟨i,h1,h2,h3⟩
    by_cases c:i=k
    ·exact absurd (c ▸ h3) hno
    ·exact ⟨i,h1,by omega,h3⟩
  unfold st2
  rw [wBp (by omega) (by omega),nA,wBp (by omega) (by omega),nA]
  by_cases c1:gd p.out k=true
  ·rw [if_pos c1]
   exact ⟨z,rfl,z1,skip (fun h=>by have:=h.1;rw [c1] at this;exact nf this)⟩
  have c1':gd p.out k=false:=by simpa using c1
  obtain ⟨x,ex,hx⟩:=wPx G' (k:Int) (gd y k) t hyk.1 (by
   have:=hyk.2
   simp only at this
   omega)
  rw [if_neg c1,ex,nA]
  rcases hx with ⟨h3,h4⟩ | ⟨j,h3,h4,h5,_⟩
  ·rw [if_neg (by omega)]
   exact ⟨z,rfl,z1,skip (fun h=>by obtain ⟨_,j,hj⟩:=h;exact h4 j hj.1 hj)⟩
  ·rw [if_pos (by omega),wEl (by simp;omega),nA]
   refine ⟨_,rfl,?_,fun x=>?_⟩
   ·rw [nW]
    refine ⟨z1,na _ _,fun a ha b hb=>?_⟩
    obtain ⟨i,rfl,hi,_⟩:=(z2 a).1 ha
    have:=nG.1 hb
    omega
   ·rw [nI,z2,nG]
    constructor
    ·rintro (⟨i,h1,h2,h3⟩ | h)
     ·exact ⟨i,h1,by omega,h3⟩
     ·exact ⟨k,h,by omega,c1',j,h5⟩
    ·rintro ⟨i,h1,h2,h3⟩
     by_cases c:i=k
     ·exact .inr (by rw [h1,c])
     ·exact .inl ⟨i,h1,by omega,h3⟩)
 rw [ez,nA]
 refine ⟨z,y,rfl,h1,h2,G',z1,fun x=>?_⟩
 rw [z2,h1]
end Go.Proofs.YtbpllbhagaoocaaGreat
namespace Go.Proofs.YtbpllbhagaoocaaGreat
open Go.KL
def rA (p:wAD) (z:List Int) (t:Int) (k1191:Nat) (l1188:List wAC):Option (List wAC) :=
      (chk (↑k1191:Int) z.length).bind fun _ =>
      (idx p.Race.Bibs (gd z k1191)).bind fun x1222 =>
      (chk (gd z k1191) p.done.length).bind fun _ =>
      (wAg p (gd z k1191) (gd p.done (gd z k1191).toNat) t).bind fun x1264 =>
      (idx p.Race.Bibs x1264).bind fun x1286 =>
      (app 32 l1188 [(⟨x1222,(gd p.done (gd z k1191).toNat),t,x1286⟩:wAC)]).bind fun x1299 =>
      some x1299
def rO (z:List Int) (k1338:Nat) (l1337:List Bool):Option (List Bool) :=
      (chk (↑k1338:Int) z.length).bind fun _ =>
      (chk (gd z k1338) l1337.length).bind fun _ =>
      some (nV l1337 (gd z k1338).toNat true)
abbrev RS:=(List wAC) × Int × (List Int) × (List (List Int)) × (List Int) × (List Bool)
def rB:RS->Int->Option (RS ⊕ Empty)
 | (l1081,x1085,l1086,l1089,l1092,l1095),x1124 =>
  (wAh (⟨(⟨x1085,l1086,l1089⟩:wAA),l1092,l1095⟩:wAD) x1124).bind fun (x1150,x1151) =>
  (wBu 0 (↑x1150.length:Int) (rA x1151 x1150 x1124) l1081).bind fun y1196 =>
  (wBu 0 (↑x1150.length:Int) (rO x1150) x1151.out).bind fun y1343 =>
  some (.inl (y1196,x1151.Race.Laps,x1151.Race.Bibs,x1151.Race.Times,x1151.done,y1343))
theorem wJc (p0:wAA):wCA p0=((mkz 8 (↑p0.Bibs.length:Int) (0:Int)).bind fun x18 =>
 (mkz 1 (↑p0.Bibs.length:Int) false).bind fun x26 =>
 some (x18,x26)).bind fun (l9,l12) =>
 (wAz p0).bind fun x520 =>
 (wAY (S:=RS) (E:=Empty) rB ([],p0.Laps,p0.Bibs,p0.Times,l9,l12) x520).bind fun rr1118 =>
 match rr1118 with
 | .inl (y1416,y1417,y1418,y1419,y1420,y1421) =>
  (wAS y1416 (fun x=>wAc x.1 x.2)).bind fun x1438 =>
  some ((⟨(⟨y1417,y1418,y1419⟩:wAA),y1420,y1421⟩:wAD),x1438)
 | .inr e1432 =>
  e1432.elim:=rfl
theorem wLY {S:Type} {f:S->Int->Option (S ⊕ Empty)} {L:List Int} (I:Nat->S->Prop) {s0:S} (hL:L.length <= 1000000) (h0:I 0 s0) (h:∀ k s,k < L.length->I k s->∃ s',f s (gd L k)=some (.inl s')/\I (k + 1) s'):∃ s',wAY f s0 L=some (.inl s')/\I L.length s':=by
 unfold wAY
 rw [wDW (by omega)]
 have key:∀ body:Nat->S->Option (S ⊕ (S ⊕ Empty)),(∀ k s,k < L.length->I k s->∃ s',body k s=some (.inl s')/\I (k + 1) s')->∃ s',jn (forN body L.length 0 s0) (fun y:S=>some (Sum.inl y:S ⊕ Empty))=some (.inl s')/\I L.length s':=by
  intro body hb
  rcases wJA (body:=body) I (fun _=>False) L.length 0 s0 h0 (fun k s _ hk hI=>.inl (hb k s (by omega) hI)) with ⟨s',e,hs⟩ | ⟨_,_,h⟩
  ·rw [Nat.zero_add] at hs
   exact ⟨s',by rw [e];rfl,hs⟩
  ·exact h.elim
 refine key _ fun k s hk hI=>?_
 obtain ⟨s',e,hs⟩:=h k s hk hI
 refine ⟨s',?_,hs⟩
 rw [wAN hk,nA,e];rfl
structure wDH (r:wAA):Prop where
 n:r.Bibs.length <= 60
 t:r.Times.length=r.Bibs.length
 len:∀ l ∈ r.Times,l.length <= 20
 inc:∀ l ∈ r.Times,l.Pairwise (· < ·)
 pos:∀ l ∈ r.Times,∀ x ∈ l,0 <= x/\x <= 360000
 one:r.Bibs.Nodup
def nbf (τ:Nat->Option Int) (i:Nat) (t:Int):Prop:=∀ s,τ i=some s->t <= s
def lap (r:wAA) (τ:Nat->Option Int) (i:Nat) (t:Int) (j:Nat):Prop :=
 j < r.Bibs.length/\nbf τ j t/\t ∈ gd r.Times j/\cn (gd r.Times i) t + 2 <= cn (gd r.Times j) t
structure Exact (r:wAA) (ts:List Int) (τ:Nat->Option Int):Prop where
 in_:∀ i s,i < r.Bibs.length->τ i=some s->s ∈ ts
 iff:∀ i,i < r.Bibs.length->∀ t ∈ ts,nbf τ i t->(τ i=some t ↔ ∃ j,lap r τ i t j)
structure Ent (r:wAA) (τ:Nat->Option Int) (i:Nat) (o:wAC):Prop where
 bib:o.Bib=gd r.Bibs i
 time:τ i=some o.Time
 done:o.Done=cn (gd r.Times i) o.Time
 by_:∃ j,o.By=gd r.Bibs j/\lap r τ i o.Time j/\∀ k,lap r τ i o.Time k->gd r.Bibs j <= gd r.Bibs k
structure Ents (r:wAA) (τ:Nat->Option Int) (a:List wAC):Prop where
 of:∀ o ∈ a,∃ i,i < r.Bibs.length/\Ent r τ i o
 all:∀ i,i < r.Bibs.length->τ i ≠ none->∃ o ∈ a,o.Bib=gd r.Bibs i
 one:(a.map (·.Bib)).Nodup
def wEb (L:List Int) (k:Nat):Int:=if k=0 then -1 else gd L (k - 1)
structure RInv (r:wAA) (L:List Int) (k:Nat) (s:RS):Prop where
 laps:s.2.1=r.Laps
 bibs:s.2.2.1=r.Bibs
 times:s.2.2.2.1=r.Times
 dl:s.2.2.2.2.1.length=r.Bibs.length
 ol:s.2.2.2.2.2.length=r.Bibs.length
 al:s.1.length <= 60 * k
 tau:∃ τ,(∀ i,i < r.Bibs.length->gd s.2.2.2.2.2 i=(τ i).isSome)/\(∀ i,i < r.Bibs.length->gd s.2.2.2.2.1 i=cn (gd r.Times i) ((τ i).getD (wEb L k)))/\Exact r (L.take k) τ/\Ents r τ s.1
theorem wDe {r:wAA} (G:wDH r) {i j:Nat} (hi:i < r.Bibs.length) (hj:j < r.Bibs.length) (e:gd r.Bibs i=gd r.Bibs j):i=j:=by
 have pw:=nE.1 (nL.1 G.one)
 rw [wBa hi,wBa hj] at e
 rcases Nat.lt_trichotomy i j with c | c | c
 ·exact absurd e (pw i j hi hj c)
 ·exact c
 ·exact absurd e.symm (pw j i hj hi c)
theorem wFq {τ τ':Nat->Option Int} {t u:Int} {z:Nat->Prop} (h1:∀ i,z i->τ' i=some t/\τ i=none) (h2:∀ i,¬ z i->τ' i=τ i) (hu:u <= t) (i:Nat):nbf τ' i u ↔ nbf τ i u:=by
 by_cases c:z i
 ·obtain ⟨a,b⟩:=h1 i c
  unfold nbf
  constructor
  ·intro _ s hs;rw [b] at hs;cases hs
  ·intro _ s hs;rw [a] at hs;cases hs;exact hu
 ·unfold nbf;rw [h2 i c]
theorem wCL {r:wAA} {τ τ':Nat->Option Int} {t u:Int} {z:Nat->Prop} (h1:∀ i,z i->τ' i=some t/\τ i=none) (h2:∀ i,¬ z i->τ' i=τ i) (hu:u <= t) (i j:Nat):lap r τ' i u j ↔ lap r τ i u j:=by
 unfold lap
 rw [wFq h1 h2 hu]
theorem rA_is {r:wAA} (G:wDH r) {τ:Nat->Option Int} {p:wAD} (hp:wHf p) (hr:p.Race=r) {t:Int} {z:List Int} (hz:∀ x ∈ z,∃ i:Nat,x=i/\i < r.Bibs.length/\(∃ j,Lp p (gd p.done i) t j))
  (hL:∀ i j,i < r.Bibs.length->gd p.out i=false->(Lp p (gd p.done i) t j ↔ lap r τ i t j)) (ho:∀ x ∈ z,∀ i:Nat,x=i->gd p.out i=false) (hd:∀ i,i < r.Bibs.length->gd p.out i=false->gd p.done i=cn (gd r.Times i) t)
  (hzl:z.length <= 60) {a:List wAC} (ha:a.length <= 100000):∃ e,wBu 0 (↑z.length:Int) (rA p z t) a=some (a ++ e)/\e.length=z.length/\∀ q,q < z.length->(gd e q).Bib=gd r.Bibs (gd z q).toNat/\(gd e q).Time=t/\(gd e q).Done=cn (gd r.Times (gd z q).toNat) t/\∃ j,(gd e q).By=gd r.Bibs j/\lap r τ (gd z q).toNat t j/\∀ k,lap r τ (gd z q).toNat t k->gd r.Bibs j <= gd r.Bibs k:=by
 have hb:=hp.b
 obtain ⟨s,e,es,h1,h2,h3⟩:=wCt (body:=rA p z t) (n:=z.length) (s0:=a) (fun k s=>∃ e,s=a ++ e/\e.length=k/\∀ q,q < k->(gd e q).Bib=gd r.Bibs (gd z q).toNat/\(gd e q).Time=t/\(gd e q).Done=cn (gd r.Times (gd z q).toNat) t/\∃ j,(gd e q).By=gd r.Bibs j/\lap r τ (gd z q).toNat t j/\∀ k,lap r τ (gd z q).toNat t k->gd r.Bibs j <= gd r.Bibs k) (by omega) ⟨[],by simp,rfl,fun q hq=>by omega⟩ (fun k s hk ⟨e,hs,h2,h3⟩=>by
  obtain ⟨i,hi,hi2,j0,hj0⟩:=hz _ (wAO hk)
  have hout:=ho _ (wAO hk) i hi
  have hpd:=hp.d0 i (by rw [<- hb,hr];exact hi2)
  have hll:=hp.len _ (wAO (l:=p.Race.Times) (k:=i) (by have:=hp.t;rw [this,<- hb,hr];exact hi2))
  have hdn:=hd i hi2 hout
  rw [hr] at hb
  unfold rA
  rw [wBp (by omega) (by omega),nA,hi,hr,wAN hi2,nA,wBp (by omega) (by omega),nA,nD]
  obtain ⟨x,ex,hx⟩:=wPx hp (i:Int) (gd p.done i) t hpd.1 (by omega)
  rw [ex,nA]
  rcases hx with ⟨_,h5⟩ | ⟨j,h4,h5,h6,h7⟩
  ·exact absurd hj0 (h5 j0 hj0.1)
  ·subst h4
   have hj:j < r.Bibs.length:=by rw [hb];exact h5
   rw [wAN hj,nA,wEl (by rw [hs];simp;omega),nA]
   refine ⟨_,rfl,e ++ [⟨gd r.Bibs i,gd p.done i,t,gd r.Bibs j⟩],by rw [hs,kL],by simp [h2],fun q hq=>?_⟩
   by_cases c:q=k
   ·subst c
    have eg:gd (e ++ [(⟨gd r.Bibs i,gd p.done i,t,gd r.Bibs j⟩:wAC)]) q=⟨gd r.Bibs i,gd p.done i,t,gd r.Bibs j⟩:=by rw [<- h2,wMa]
    rw [eg,hi,nD]
    refine ⟨rfl,rfl,hdn,j,rfl,(hL i j hi2 hout).1 h6,fun k hk=>?_⟩
    have hk2:=(hL i k hi2 hout).2 hk
    rw [hr] at h7
    exact h7 k hk2.1 hk2
   ·rw [wMZ (by omega)]
    exact h3 q (by omega))
 exact ⟨es,by rw [e,h1],h2,h3⟩
theorem rO_is {z:List Int} {n:Nat} (hz:∀ x ∈ z,0 <= x/\x < n) (hzl:z.length <= 60) {o:List Bool} (ho:o.length=n):∃ o',wBu 0 (↑z.length:Int) (rO z) o=some o'/\o'.length=n/\∀ i:Nat,i < n->gd o' i=if (i:Int) ∈ z then true else gd o i:=by
 obtain ⟨o',e,h1,h2⟩:=wCt (body:=rO z) (n:=z.length) (s0:=o) (fun k o'=>o'.length=n/\∀ i:Nat,i < n->gd o' i=if (i:Int) ∈ z.take k then true else gd o i) (by omega) ⟨ho,fun i _=>by simp⟩ (fun k s hk ⟨h1,h2⟩=>by
  have hr:=hz _ (wAO hk)
  unfold rO
  rw [wBp (by omega) (by omega),nA,wBp (by omega) (by omega),nA]
  refine ⟨_,rfl,by simpa using h1,fun i hi=>?_⟩
  rw [wGU (by omega) (by omega),h2 i hi,wDC hk]
  by_cases c:i=(gd z k).toNat
  ·rw [if_pos c,if_pos (by rw [nI,nG];right;omega)]
  ·rw [if_neg c]
   have:((i:Int) ∈ z.take k ++ [gd z k]) ↔ (i:Int) ∈ z.take k:=by
    rw [nI,nG]
    exact ⟨fun h=>h.elim id fun h=>absurd h (by omega),.inl⟩
   simp only [this])
 exact ⟨o',e,h1,fun i hi=>by rw [h2 i hi,nK]⟩
end Go.Proofs.YtbpllbhagaoocaaGreat
namespace Go.Proofs.YtbpllbhagaoocaaGreat
open Go.KL
structure Times (r:wAA) (L:List Int):Prop where
 inc:L.Pairwise (· < ·)
 all:∀ x,x ∈ L ↔ ∃ l ∈ r.Times,x ∈ l
 len:L.length <= 1200
theorem wOh {L:List Int} (hL:L.Pairwise (· < ·)) (h0:∀ x ∈ L,0 <= x) {k:Nat} (hk:k < L.length):wEb L k < gd L k/\(∀ x ∈ L.take k,x <= wEb L k/\x < gd L k)/\∀ x ∈ L,wEb L k < x->gd L k <= x:=by
 have mono:∀ i j,i < j->j < L.length->gd L i < gd L j:=fun i j hij hj=>by
  have:=nE.1 hL i j (by omega) hj hij
  rwa [<- wBa (by omega),<- wBa hj] at this
 have le:∀ i j,i <= j->j < L.length->gd L i <= gd L j:=fun i j hij hj=>by
  by_cases e:i=j
  ·subst e;exact nJ _
  ·exact nu (mono i j (by omega) hj)
 unfold wEb
 refine ⟨?_,fun x hx=>?_,fun x hx hlt=>?_⟩
 ·split
  ·have:=h0 _ (wAO hk);omega
  ·exact mono _ _ (by omega) hk
 ·obtain ⟨i,hi,e⟩:=nH hx
  rw [ng] at hi
  rw [List.getElem_take,<- wBa (by omega)] at e
  subst e
  rw [if_neg (by omega)]
  exact ⟨le _ _ (by omega) (by omega),mono _ _ (by omega) hk⟩
 ·obtain ⟨i,hi,e⟩:=nH hx
  rw [<- wBa hi] at e
  subst e
  rcases kK i k with c | c
  ·exfalso
   rw [if_neg (by omega)] at hlt
   have:=le i (k - 1) (by omega) (by omega)
   omega
  ·exact le _ _ c hi
theorem wMe {r:wAA} (G:wDH r) {L:List Int} (hT:Times r L) {k:Nat} (hk:k < L.length) {s:RS} (I:RInv r L k s):∃ s',rB s (gd L k)=some (.inl s')/\RInv r L (k + 1) s':=by
 obtain ⟨A,laps,bibs,times,done,out⟩:=s
 obtain ⟨e1,e2,e3,dl,ol,al,τ,to,td,tx,te⟩:=I
 simp only at e1 e2 e3 dl ol al to td te
 subst e1 e2 e3
 have hn:=G.n
 have hrt:=G.t
 have hpos:∀ x ∈ L,0 <= x:=fun x hx=>by
  obtain ⟨l,hl,hx⟩:=(hT.all x).1 hx
  exact (G.pos l hl x hx).1
 obtain ⟨lt1,lt2,lt3⟩:=wOh hT.inc hpos hk
 have hkl:=hT.len
 generalize ht:gd L k=t at lt1 lt2 lt3 ⊢
 have tin:∀ i,i < r.Bibs.length->gd r.Times i ∈ r.Times:=fun i hi=>wAO (by omega)
 let p:wAD:=⟨r,done,out⟩
 have Gp:wHf p:=⟨by show done.length <= 60;omega,by show out.length=done.length;omega,by show r.Bibs.length=done.length;omega,by show r.Times.length=done.length;omega,fun i hi=>by
  have hi':i < r.Bibs.length:=by rw [<- dl];exact hi
  show 0 <= gd done i/\gd done i <= ((gd r.Times i).length:Int)
  rw [td i hi']
  have:=wGA (gd r.Times i) ((τ i).getD (wEb L k))
  omega,fun l hl=>by have:=G.len l hl;omega⟩
 obtain ⟨z,y,ez,yl,yn,Gy,zp,zi⟩:=wOg Gp t
 have yl':y.length=r.Bibs.length:=by rw [yl];exact dl
 have outN:∀ i,i < r.Bibs.length->(gd out i=false ↔ τ i=none):=fun i hi=>by
  rw [to i hi]
  cases τ i <;> simp
 have yv:∀ i,i < r.Bibs.length->gd y i=cn (gd r.Times i) ((τ i).getD t):=fun i hi=>by
  have h1:=yn i (by rw [dl];exact hi)
  rw [h1]
  unfold nx
  show (if gd out i=false/\gd done i < ((gd r.Times i).length:Int)/\gd (gd r.Times i) (gd done i).toNat=t then gd done i + 1 else gd done i)=_
  cases hτ:τ i with
  | some s =>
   have ho:gd out i=true:=by rw [to i hi,hτ];rfl
   rw [if_neg (fun h=>by rw [ho] at h;exact nf h.1),td i hi,hτ]
   rfl
  | none =>
   have ho:gd out i=false:=(outN i hi).2 hτ
   have hd:=td i hi
   rw [hτ] at hd
   simp only [nQ] at hd ⊢
   rw [wOf (G.inc _ (tin i hi)) lt1 (fun x hx hlt=>lt3 x ((hT.all x).2 ⟨_,tin i hi,hx⟩) hlt),hd]
   by_cases c:cn (gd r.Times i) (wEb L k) < (gd r.Times i).length/\gd (gd r.Times i) (cn (gd r.Times i) (wEb L k))=t
   ·rw [if_pos c,if_pos ⟨ho,by omega,by rw [nD];exact c.2⟩]
    omega
   ·rw [if_neg c,if_neg (fun h=>c ⟨by omega,by have:=h.2.2;rwa [nD] at this⟩)]
 have nbN:∀ j,j < r.Bibs.length->(nbf τ j t ↔ τ j=none):=fun j hj=>by
  constructor
  ·intro h
   cases hτ:τ j with
   | none=>rfl
   | some s =>
    have h1:=h s hτ
    have h2:=lt2 s (tx.in_ j s hj hτ)
    omega
  ·intro h s hs;rw [h] at hs;cases hs
 have lapN:∀ i j,i < r.Bibs.length->gd out i=false->(Lp (⟨r,y,out⟩:wAD) (gd y i) t j ↔ lap r τ i t j):=fun i j hi ho=>by
  have yi:gd y i=cn (gd r.Times i) t:=by rw [yv i hi,(outN i hi).1 ho];rfl
  unfold Lp lap
  show (j < y.length/\gd out j=false/\gd y i + 2 <= gd y j/\gd (gd r.Times j) (gd y j - 1).toNat=t) ↔ _
  rw [yl']
  constructor
  ·rintro ⟨hj,h1,h2,h3⟩
   have hτ:=(outN j hj).1 h1
   have yj:gd y j=cn (gd r.Times j) t:=by rw [yv j hj,hτ];rfl
   rw [yi,yj] at h2
   rw [yj] at h3
   have hle:=wGA (gd r.Times j) t
   refine ⟨hj,(nbN j hj).2 hτ,?_,by omega⟩
   have hm:=wAO (l:=gd r.Times j) (k:=((cn (gd r.Times j) t:Nat) - 1:Int).toNat) (by omega)
   rwa [h3] at hm
  ·rintro ⟨hj,h1,h2,h3⟩
   have hτ:=(nbN j hj).1 h1
   have yj:gd y j=cn (gd r.Times j) t:=by rw [yv j hj,hτ];rfl
   obtain ⟨c1,c2,c3⟩:=wNW (G.inc _ (tin j hj)) h2
   refine ⟨hj,(outN j hj).2 hτ,by rw [yi,yj];omega,?_⟩
   rw [yj,show (((cn (gd r.Times j) t:Nat):Int) - 1).toNat=cn (gd r.Times j) t - 1 by omega]
   exact c3
 have zin:∀ x,x ∈ z ↔ ∃ i:Nat,x=i/\i < r.Bibs.length/\τ i=none/\∃ j,lap r τ i t j:=fun x=>by
  rw [zi]
  constructor
  ·rintro ⟨i,h1,h2,h3,j,h4⟩
   have hi:i < r.Bibs.length:=by rw [<- dl];exact h2
   exact ⟨i,h1,hi,(outN i hi).1 h3,j,(lapN i j hi h3).1 h4⟩
  ·rintro ⟨i,h1,hi,h3,j,h4⟩
   exact ⟨i,h1,by rw [<- dl] at hi;exact hi,(outN i hi).2 h3,j,(lapN i j hi ((outN i hi).2 h3)).2 h4⟩
 have zl:z.length <= 60:=by
  have key:∀ m,m < z.length->(m:Int) <= gd z m:=by
   intro m
   induction m with
   | zero =>
    intro hm
    obtain ⟨i,h1,_⟩:=(zin _).1 (wAO hm)
    omega
   | succ m ih =>
    intro hm
    have h3:=ih (by omega)
    have h4:=nE.1 zp m (m + 1) (by omega) hm (by omega)
    rw [<- wBa (by omega),<- wBa hm] at h4
    omega
  rcases kK 60 z.length with c | c
  ·have h5:=key 60 c
   obtain ⟨i,h1,h2,_⟩:=(zin _).1 (wAO c)
   omega
  ·exact c
 obtain ⟨E,eE,El,Ee⟩:=rA_is (τ:=τ) G (p:=⟨r,y,out⟩) Gy rfl (t:=t) (z:=z) (fun x hx=>by
   obtain ⟨i,h1,h2,h3,j,h4⟩:=(zin x).1 hx
   exact ⟨i,h1,h2,j,(lapN i j h2 ((outN i h2).2 h3)).2 h4⟩) lapN (fun x hx i hi=>by
   obtain ⟨i',h1,h2,h3,_⟩:=(zin x).1 hx
   have:i=i':=by omega
   subst this
   exact (outN i h2).2 h3) (fun i hi ho=>by
   show gd y i=_
   rw [yv i hi,(outN i hi).1 ho];rfl) zl (a:=A) (by omega)
 obtain ⟨o',eo,ol',oi⟩:=rO_is (n:=r.Bibs.length) (z:=z) (fun x hx=>by
  obtain ⟨i,h1,h2,_⟩:=(zin x).1 hx
  omega) zl (o:=out) ol
 have er:rB (A,r.Laps,r.Bibs,r.Times,done,out) t=some (.inl (A ++ E,r.Laps,r.Bibs,r.Times,y,o')):=by
  unfold rB
  simp only
  rw [show wAh (⟨(⟨r.Laps,r.Bibs,r.Times⟩:wAA),done,out⟩:wAD) t=some (z,(⟨r,y,out⟩:wAD)) from ez,nA]
  simp only
  rw [eE,nA,eo,nA]
 obtain ⟨τ',hτ1,hτ2⟩:∃ τ':Nat->Option Int,(∀ i:Nat,(i:Int) ∈ z->τ' i=some t)/\∀ i:Nat,¬ (i:Int) ∈ z->τ' i=τ i:=⟨fun i=>if (i:Int) ∈ z then some t else τ i,fun i hi=>if_pos hi,fun i hi=>if_neg hi⟩
 refine ⟨_,er,rfl,rfl,rfl,yl',ol',by simp only [nS];omega,τ',fun i hi=>?_,fun i hi=>?_,?_,?_⟩
 ·simp only
  rw [oi i hi]
  by_cases c:(i:Int) ∈ z
  ·rw [if_pos c,hτ1 i c];rfl
  ·rw [if_neg c,hτ2 i c];exact to i hi
 ·simp only
  rw [yv i hi]
  have hl:wEb L (k + 1)=t:=by unfold wEb;rw [if_neg (by omega)];exact ht
  rw [hl]
  by_cases c:(i:Int) ∈ z
  ·rw [hτ1 i c]
   obtain ⟨i',h1,h2,h3,_⟩:=(zin _).1 c
   have:i=i':=by omega
   subst this
   rw [h3];rfl
  ·rw [hτ2 i c]
 ·
  have h1:∀ i:Nat,(i:Int) ∈ z->τ' i=some t/\τ i=none:=fun i hi=>by
   obtain ⟨i',h1,_,h3,_⟩:=(zin _).1 hi
   have:i=i':=by omega
   subst this
   exact ⟨hτ1 i hi,h3⟩
  have h2:∀ i:Nat,¬ (i:Int) ∈ z->τ' i=τ i:=hτ2
  have tk:∀ u,u ∈ L.take (k + 1) ↔ u ∈ L.take k \/ u=t:=fun u=>by rw [wDC hk,nI,nG,ht]
  refine ⟨fun i u hi hu=>?_,fun i hi u hu hnb=>?_⟩
  ·rw [tk]
   by_cases c:(i:Int) ∈ z
   ·have:=(h1 i c).1
    rw [this] at hu
    right
    exact (nk hu).symm
   ·rw [h2 i c] at hu
    exact .inl (tx.in_ i u hi hu)
  ·rcases (tk u).1 hu with hu | hu
   ·have hut:=(lt2 u hu).2
    rw [wFq (z:=fun i:Nat=>(i:Int) ∈ z) h1 h2 (nu hut)] at hnb
    have:=tx.iff i hi u hu hnb
    simp only [wCL (r:=r) (z:=fun i:Nat=>(i:Int) ∈ z) h1 h2 (nu hut)]
    rw [<- this]
    by_cases c:(i:Int) ∈ z
    ·rw [(h1 i c).1,(h1 i c).2]
     exact ⟨fun h=>by have:=nk h;omega,fun h=>by cases h⟩
    ·rw [h2 i c]
   ·subst hu
    rw [wFq (z:=fun i:Nat=>(i:Int) ∈ z) h1 h2 (nJ _),nbN i hi] at hnb
    simp only [wCL (r:=r) (z:=fun i:Nat=>(i:Int) ∈ z) h1 h2 (nJ _)]
    constructor
    ·intro h
     by_cases c:(i:Int) ∈ z
     ·obtain ⟨i',g1,_,_,g4⟩:=(zin _).1 c
      have:i=i':=by omega
      subst this
      exact g4
     ·rw [h2 i c,hnb] at h;cases h
    ·intro h
     exact (h1 i ((zin _).2 ⟨i,rfl,hi,hnb,h⟩)).1
 ·have h1:∀ i:Nat,(i:Int) ∈ z->τ' i=some t/\τ i=none:=fun i hi=>by
   obtain ⟨i',h1,_,h3,_⟩:=(zin _).1 hi
   have:i=i':=by omega
   subst this
   exact ⟨hτ1 i hi,h3⟩
  have h2:∀ i:Nat,¬ (i:Int) ∈ z->τ' i=τ i:=hτ2
  have hA:∀ o ∈ A,∃ i,i < r.Bibs.length/\Ent r τ i o/\¬ (i:Int) ∈ z/\o.Time <= t:=fun o ho=>by
   obtain ⟨i,hi,hE⟩:=te.of o ho
   refine ⟨i,hi,hE,fun c=>?_,nu (lt2 _ (tx.in_ i _ hi hE.time)).2⟩
   have:=(h1 i c).2
   rw [hE.time] at this
   cases this
  have hE:∀ q,q < z.length->∃ i:Nat,gd z q=i/\i < r.Bibs.length/\τ i=none/\(i:Int) ∈ z:=fun q hq=>by
   obtain ⟨i,g1,g2,g3,_⟩:=(zin _).1 (wAO hq)
   exact ⟨i,g1,g2,g3,g1 ▸ wAO hq⟩
  refine ⟨fun o ho=>?_,fun i hi hτ=>?_,?_⟩
  ·rcases nI.1 ho with ho | ho
   ·obtain ⟨i,hi,he,hz,hot⟩:=hA o ho
    obtain ⟨j,j1,j2,j3⟩:=he.by_
    refine ⟨i,hi,he.bib,by rw [h2 i hz];exact he.time,he.done,j,j1,(wCL (z:=fun i:Nat=>(i:Int) ∈ z) h1 h2 hot i j).2 j2,fun q hq=>j3 q ((wCL (z:=fun i:Nat=>(i:Int) ∈ z) h1 h2 hot i q).1 hq)⟩
   ·obtain ⟨q,hq,eq⟩:=nH ho
    rw [<- wBa hq] at eq
    subst eq
    obtain ⟨i,g1,g2,_,g4⟩:=hE q (by omega)
    obtain ⟨b1,b2,b3,j,j1,j2,j3⟩:=Ee q (by omega)
    rw [g1,nD] at b1 b3 j2
    refine ⟨i,g2,b1,by rw [b2];exact (h1 i g4).1,by rw [b2];exact b3,j,j1,by rw [b2];exact (wCL (z:=fun i:Nat=>(i:Int) ∈ z) h1 h2 (nJ _) i j).2 j2,fun q' hq'=>?_⟩
    rw [b2] at hq'
    have:=j3 q' (by rw [g1,nD];exact (wCL (z:=fun i:Nat=>(i:Int) ∈ z) h1 h2 (nJ _) i q').1 hq')
    exact this
  ·by_cases c:(i:Int) ∈ z
   ·obtain ⟨q,hq,eq⟩:=nH c
    rw [<- wBa hq] at eq
    refine ⟨gd E q,nM _ (wAO (by omega)),?_⟩
    rw [(Ee q hq).1,eq,nD]
   ·rw [hτ2 i c] at hτ
    obtain ⟨o,ho,e⟩:=te.all i hi hτ
    exact ⟨o,nN _ ho,e⟩
  ·rw [nY,nO]
   refine ⟨te.one,?_,fun a ha b hb e=>?_⟩
   ·rw [nL,nE]
    intro a b ha hb hab e
    rw [nX] at ha hb
    rw [nR,nR,<- wBa ha,<- wBa hb,(Ee a (by omega)).1,(Ee b (by omega)).1] at e
    obtain ⟨i,g1,g2,_⟩:=hE a (by omega)
    obtain ⟨j,g3,g4,_⟩:=hE b (by omega)
    rw [g1,g3,nD,nD] at e
    have:=wDe G g2 g4 e
    have h4:=nE.1 zp a b (by omega) (by omega) hab
    rw [<- wBa (by omega),<- wBa (by omega)] at h4
    omega
   ·obtain ⟨o,ho,e1⟩:=nZ.1 ha
    obtain ⟨i,hi,he,hz,_⟩:=hA o ho
    obtain ⟨o2,ho2,e2⟩:=nZ.1 hb
    obtain ⟨q,hq,eq⟩:=nH ho2
    rw [<- wBa hq] at eq
    subst eq
    obtain ⟨j,g3,g4,_,g5⟩:=hE q (by omega)
    rw [(Ee q (by omega)).1,g3,nD] at e2
    have:=wDe G hi g4 (by rw [<- he.bib,e1,e,e2])
    subst this
    exact hz g5
end Go.Proofs.YtbpllbhagaoocaaGreat
namespace Go.Proofs.YtbpllbhagaoocaaGreat
open Go.KL
theorem wGB {zs:List Int} (h:zs.Pairwise (· <= ·)):(Go.Lib.compact zs).Pairwise (· < ·)/\(∀ x,x ∈ Go.Lib.compact zs ↔ x ∈ zs)/\(Go.Lib.compact zs).length <= zs.length:=by
 have hg:∀ i,i < zs.length->(zs.toArray[i]!)=gd zs i:=fun i hi=>by
  rw [getElem!_pos zs.toArray i (by simpa using hi),wBa hi];simp
 have le:∀ i j,i <= j->j < zs.length->gd zs i <= gd zs j:=fun i j hij hj=>by
  by_cases e:i=j
  ·subst e;exact nJ _
  ·have:=nE.1 h i j (by omega) hj (by omega)
   rwa [<- wBa (by omega),<- wBa hj] at this
 have key:∀ m,m <= zs.length->(Go.Lib.compactUpTo zs.toArray m).Pairwise (· < ·)/\(∀ x,x ∈ Go.Lib.compactUpTo zs.toArray m ↔ ∃ j,j < m/\gd zs j=x)/\(Go.Lib.compactUpTo zs.toArray m).length <= m:=by
  intro m
  induction m with
  | zero=>intro _;exact ⟨by simp [Go.Lib.compactUpTo],fun x=>by simp [Go.Lib.compactUpTo],by simp [Go.Lib.compactUpTo]⟩
  | succ m ih =>
   intro hm
   obtain ⟨h1,h2,h3⟩:=ih (by omega)
   rw [Go.Lib.compactUpTo_succ]
   by_cases c:Go.Lib.keeps zs.toArray m=true
   ·rw [if_pos c,hg m (by omega)]
    refine ⟨?_,fun x=>?_,by simp;omega⟩
    ·rw [nW]
     refine ⟨h1,na _ _,fun a ha b hb=>?_⟩
     obtain ⟨j,hj,e⟩:=(h2 a).1 ha
     have hb':=nG.1 hb
     unfold Go.Lib.keeps at c
     simp only [decide_eq_true_iff] at c
     rcases c with c | c
     ·omega
     ·rw [hg m (by omega),hg (m - 1) (by omega)] at c
      have l1:=le j (m - 1) (by omega) (by omega)
      have l2:=le (m - 1) m (by omega) (by omega)
      omega
    ·rw [nI,nG,h2]
     constructor
     ·rintro (⟨j,hj,e⟩ | e)
      ·exact ⟨j,by omega,e⟩
      ·exact ⟨m,by omega,e.symm⟩
     ·rintro ⟨j,hj,e⟩
      by_cases ej:j=m
      ·subst ej;exact .inr e.symm
      ·exact .inl ⟨j,by omega,e⟩
   ·rw [if_neg c,List.append_nil]
    refine ⟨h1,fun x=>?_,by omega⟩
    have m0:m ≠ 0/\gd zs m=gd zs (m - 1):=by
     unfold Go.Lib.keeps at c
     simp only [decide_eq_true_iff,not_or,ne_eq,Decidable.not_not] at c
     have:=c.2
     rw [hg m (by omega),hg (m - 1) (by omega)] at this
     exact ⟨c.1,this⟩
    rw [h2]
    constructor
    ·rintro ⟨j,hj,e⟩
     exact ⟨j,by omega,e⟩
    ·rintro ⟨j,hj,e⟩
     by_cases ej:j=m
     ·subst ej;exact ⟨j - 1,by omega,by rw [<- m0.2];exact e⟩
     ·exact ⟨j,by omega,e⟩
 obtain ⟨h1,h2,h3⟩:=key zs.length (Nat.le_refl _)
 refine ⟨h1,fun x=>?_,h3⟩
 show x ∈ Go.Lib.compactUpTo zs.toArray zs.length ↔ _
 rw [h2]
 constructor
 ·rintro ⟨j,hj,e⟩
  exact e ▸ wAO hj
 ·intro hx
  obtain ⟨j,hj,e⟩:=nH hx
  exact ⟨j,hj,by rw [wBa hj];exact e⟩
theorem wGw {T:List (List Int)} (hl:∀ l ∈ T,l.length <= 20):∀ k,(T.take k).flatten.length <= 20 * k:=by
 intro k
 induction k generalizing T with
 | zero=>simp
 | succ k ih =>
  cases T with
  | nil=>simp
  | cons a T =>
   rw [List.take_succ_cons,List.flatten_cons,nS]
   have:=hl a (by simp)
   have:=ih (T:=T) fun l h=>hl l (by simp [h])
   omega
theorem wHg {T:List (List Int)} {k:Nat} (hk:k < T.length):(T.take (k + 1)).flatten=(T.take k).flatten ++ gd T k:=by
 rw [wDC hk,List.flatten_append];simp
theorem wLZ {T:List (List Int)} (hn:T.length <= 60) (hl:∀ l ∈ T,l.length <= 20):wAq T=some T.flatten:=by
 unfold wAq
 have fl:=wGw hl
 obtain ⟨x,ex,hx⟩:=wCt (body:=fun (k7:Nat) (x6:Int) =>
  (idx T (↑k7:Int)).bind fun x29 =>
  if (w64 (x6 + (↑x29.length:Int))) < 0 then
   none
  else
   some (w64 (x6 + (↑x29.length:Int)))) (n:=T.length) (s0:=(0:Int)) (fun k x=>x=((T.take k).flatten.length:Int)) (by omega) (by simp) (fun k x hk hx=>by
  have h1:=hl _ (wAO hk)
  have h2:=fl k
  rw [wAN hk,nA,hx,wAe (by omega) (by omega),if_neg (by omega)]
  exact ⟨_,rfl,by rw [wHg hk,nS];omega⟩)
 have h60:=fl T.length
 rw [nK] at h60 hx
 have eg:wAw [] x=some []:=by
  unfold wAw
  rw [if_neg (by omega),wAe (by omega) (by omega)]
  by_cases c:0 < x - 0
  ·rw [if_pos c,appZ,if_pos (by omega)];rfl
  ·rw [if_neg c]
 have e2:=wFo (body:=fun (k86:Nat) (l83:List Int) =>
  (idx T (↑k86:Int)).bind fun x107 =>
  (app 8 l83 x107).bind fun x122 =>
  some x122) (n:=T.length) (s0:=[]) (fun k=>(T.take k).flatten) (by simp) (by omega) (fun i hi=>by
  have h1:=hl _ (wAO hi)
  have h2:=fl i
  rw [wAN hi,nA,wEl (by omega),nA,wHg hi])
 rw [nK] at e2
 rw [ex,nA,eg,nA,e2,nA]
theorem wMf {r:wAA} (G:wDH r):∃ L,wAz r=some L/\Times r L:=by
 unfold wAz
 have hn:=G.n
 have hl:=wGw G.len r.Times.length
 rw [nK] at hl
 have ht:=G.t
 rw [wLZ (by omega) G.len,nA]
 have e1:wBP r.Times.flatten=some (r.Times.flatten.mergeSort fun x y=>decide (x <= y)):=by
  unfold wBP wMC
  exact if_pos (by omega)
 rw [e1,nA]
 have hp:=kG r.Times.flatten fun x y=>decide (x <= y)
 have so:=nw (le:=fun x y:Int=>decide (x <= y)) (fun a b c h1 h2=>by simp at h1 h2 ⊢;omega) (fun a b=>by simp;omega) r.Times.flatten
 have hlen:=hp.length_eq
 generalize r.Times.flatten.mergeSort (fun x y=>decide (x <= y))=M at hp so hlen
 obtain ⟨c1,c2,c3⟩:=wGB (zs:=M) (so.imp fun h=>by simpa using h)
 have e2:wAy M=some (Go.Lib.compact M):=by
  unfold wAy wEq
  exact if_pos (by omega)
 rw [e2,nA]
 unfold wBH
 refine ⟨_,rfl,c1,fun x=>?_,by omega⟩
 rw [c2,hp.mem_iff,List.mem_flatten]
def ltO (a b:wAC):Prop:=a.Time < b.Time \/ a.Time=b.Time/\a.Bib < b.Bib
instance (a b:wAC):Decidable (ltO a b):=by unfold ltO;exact inferInstance
theorem cmpO (a b:wAC):wAc a b=some (if a.Time < b.Time then -1 else if b.Time < a.Time then 1 else if a.Bib < b.Bib then -1 else if b.Bib < a.Bib then 1 else 0):=by
 have hc:∀ x y:Int,wBJ x y=some (if x < y then -1 else if y < x then 1 else 0):=fun x y=>by
  unfold wBJ wBg
  simp only [not_true_eq_false,decide_false,nA,kJ,if_false]
  split
  ·rfl
  ·split <;> rfl
 have ho:∀ x y:Int,wCK [x,y]=some (if x=0 then y else x):=fun x y=>by
  unfold wCK
  rw [wDW (by simp)]
  show jn (forN _ 2 0 ()) _=_
  have i0:idx [x,y] ((0:Nat):Int)=some x:=rfl
  have i1:idx [x,y] ((0 + 1:Nat):Int)=some y:=rfl
  simp only [forN,i0,i1,nA]
  by_cases c:x=0
  ·simp only [if_pos c]
   by_cases d:y=0
   ·simp only [if_pos d,d];rfl
   ·simp only [if_neg d];rfl
  ·simp only [if_neg c];rfl
 unfold wAc
 rw [hc,nA,hc,nA,ho,nA]
 by_cases c1:a.Time < b.Time
 ·simp [c1]
 ·by_cases c2:b.Time < a.Time
  ·simp [c1,c2]
  ·simp only [c1,c2,if_false,if_true]
structure RunP (r:wAA) (D:List Int) (A:List wAC) (τ:Nat->Option Int):Prop where
 dl:D.length=r.Bibs.length
 done:∀ i,i < r.Bibs.length->(τ i=none/\gd D i=(gd r.Times i).length) \/ ∃ s,τ i=some s/\gd D i=cn (gd r.Times i) s
 ex:∀ i,i < r.Bibs.length->∀ j,j < r.Bibs.length->∀ t ∈ gd r.Times j,nbf τ i t->(τ i=some t ↔ ∃ k,lap r τ i t k)
 in_:∀ i s,i < r.Bibs.length->τ i=some s->∃ l ∈ r.Times,s ∈ l
 ents:Ents r τ A
 ord:A.Pairwise ltO
 al:A.length <= 100000
theorem wPz {r:wAA} (G:wDH r):∃ p A τ,wCA r=some (p,A)/\RunP r p.done A τ:=by
 rw [wJc]
 have hn:=G.n
 have ht:=G.t
 rw [mkz,if_pos (by omega),nA,mkz,if_pos (by omega),nA,nA]
 simp only
 obtain ⟨L,eL,hT⟩:=wMf G
 rw [eL,nA]
 have hpos:∀ x ∈ L,0 <= x:=fun x hx=>by
  obtain ⟨l,hl,hx⟩:=(hT.all x).1 hx
  exact (G.pos l hl x hx).1
 have hll:=hT.len
 obtain ⟨⟨A,laps,bibs,times,done,out⟩,e,I⟩:=wLY (f:=rB) (L:=L) (s0:=([],r.Laps,r.Bibs,r.Times,nT (r.Bibs.length:Int).toNat 0,nT (r.Bibs.length:Int).toNat false)) (RInv r L) (by omega) ⟨rfl,rfl,rfl,by simp,by simp,by simp,fun _=>none,fun i hi=>by rw [wBa (by simpa using hi)];simp,fun i hi=>by
   rw [wBa (by simpa using hi)]
   have:cn (gd r.Times i) (-1)=0:=nl.2 fun x hx=>by
    have:=(G.pos _ (wAO (l:=r.Times) (k:=i) (by omega)) x hx).1
    simp;omega
   simp only [nQ,wEb,if_true,this,List.getElem_replicate]
   rfl,⟨(fun i s _ h=>by cases h),(fun i _ t ht=>by rw [List.take_zero] at ht;cases ht)⟩,⟨(fun o ho=>by cases ho),(fun i _ h=>absurd rfl h),by simp⟩⟩ (fun k s hk I=>wMe G hT hk I)
 rw [e,nA]
 obtain ⟨e1,e2,e3,dl,ol,al,τ,to,td,tx,te⟩:=I
 simp only at e1 e2 e3 dl ol al to td te
 rw [nK] at tx
 simp only
 have lt:∀ a b:wAC,ltB (fun x:wAC × wAC=>wAc x.1 x.2) a b=decide (ltO a b):=fun a b=>by
  unfold ltB ltO
  simp only [cmpO]
  by_cases c1:a.Time < b.Time
  ·simp [c1]
  ·by_cases c2:b.Time < a.Time
   ·simp [c1,c2];omega
   ·have c3:a.Time=b.Time:=by omega
    by_cases c4:a.Bib < b.Bib
    ·simp [c3,c4]
    ·by_cases c5:b.Bib < a.Bib <;> simp [c3,c4,c5]
 have one:∀ x ∈ A,∀ y ∈ A,x.Bib=y.Bib->x=y:=fun x hx y hy e=>by
  obtain ⟨i,hi,ei⟩:=nH hx
  obtain ⟨j,hj,ej⟩:=nH hy
  have pw:=nE.1 (nL.1 te.one)
  rcases Nat.lt_trichotomy i j with c | c | c
  ·have:=pw i j (by simpa using hi) (by simpa using hj) c
   rw [nR,nR,ei,ej] at this
   exact absurd e this
  ·subst c;rw [<- ei,<- ej]
  ·have:=pw j i (by simpa using hj) (by simpa using hi) c
   rw [nR,nR,ei,ej] at this
   exact absurd e.symm this
 have C:Cmp (fun x:wAC × wAC=>wAc x.1 x.2) A:=by
  refine ⟨by omega,fun x _ y _=>by show (wAc x y).isSome=true;rw [cmpO];rfl,fun x _=>by rw [lt];simp [ltO],fun x _ y _ w _ a b=>?_,fun x _ y _ w _ a b=>?_,fun x hx y hy a b=>?_⟩
  ·rw [lt] at a b ⊢
   simp only [decide_eq_true_iff] at a b ⊢
   simp only [ltO] at a b ⊢
   omega
  ·rw [lt] at a b ⊢
   simp only [decide_eq_false_iff_not] at a b ⊢
   simp only [ltO] at a b ⊢
   omega
  ·rw [lt] at a b
   simp only [decide_eq_false_iff_not] at a b
   simp only [ltO] at a b
   exact one x hx y hy (by omega)
 unfold wAS
 rw [wMD C,nA]
 have hp:=kG A fun x y=>!ltB (fun x:wAC × wAC=>wAc x.1 x.2) y x
 have so:=nw (le:=fun x y:wAC=>!ltB (fun x:wAC × wAC=>wAc x.1 x.2) y x) (fun a b c h1 h2=>by
   rw [lt] at h1 h2 ⊢
   simp only [nt,decide_eq_false_iff_not] at h1 h2 ⊢
   simp only [ltO] at h1 h2 ⊢
   omega) (fun a b=>by
   rw [lt,lt]
   simp only [Bool.or_eq_true,nt,decide_eq_false_iff_not]
   simp only [ltO]
   omega) A
 generalize A.mergeSort (fun x y=>!ltB (fun x:wAC × wAC=>wAc x.1 x.2) y x)=A' at hp so
 refine ⟨_,A',τ,rfl,dl,fun i hi=>?_,fun i hi j hj t htj=>tx.iff i hi t ((hT.all t).2 ⟨_,wAO (by omega),htj⟩),fun i s hi hs=>(hT.all s).1 (tx.in_ i s hi hs),⟨fun o ho=>te.of o (hp.mem_iff.1 ho),fun i hi h=>?_,(hp.map _).nodup_iff.2 te.one⟩,?_,by have:=hp.length_eq;omega⟩
 ·have hd:=td i hi
  cases hτ:τ i with
  | some s =>
   right
   refine ⟨s,rfl,?_⟩
   rw [hd,hτ];rfl
  | none =>
   left
   refine ⟨rfl,?_⟩
   show gd done i=_
   rw [hd,hτ]
   have:cn (gd r.Times i) (wEb L L.length)=(gd r.Times i).length:=by
    refine kC.2 fun x hx=>?_
    have hxl:x ∈ L:=(hT.all x).2 ⟨_,wAO (by omega),hx⟩
    obtain ⟨q,hq,eq⟩:=nH hxl
    rw [<- wBa hq] at eq
    unfold wEb
    rw [if_neg (by omega),<- eq]
    by_cases c:q=L.length - 1
    ·subst c;simp
    ·have:=nE.1 hT.inc q (L.length - 1) hq (by omega) (by omega)
     rw [<- wBa hq,<- wBa (by omega)] at this
     simp;omega
   rw [nQ,this]
 ·obtain ⟨o,ho,e⟩:=te.all i hi h
  exact ⟨o,hp.mem_iff.2 ho,e⟩
 ·have nd:=(hp.map (·.Bib)).nodup_iff.2 te.one
  refine (so.and (List.pairwise_map.1 (nL.1 nd))).imp fun {a b} h=>?_
  obtain ⟨h1,h2⟩:=h
  rw [lt] at h1
  simp only [nt,decide_eq_false_iff_not] at h1 ⊢
  simp only [ltO] at h1 ⊢
  omega
end Go.Proofs.YtbpllbhagaoocaaGreat
namespace Go.Proofs.YtbpllbhagaoocaaGreat
open Go.KL
structure wEQ (r:wAA) (A:List wAC) (τ:Nat->Option Int):Prop where
 ex:∀ i,i < r.Bibs.length->∀ j,j < r.Bibs.length->∀ t ∈ gd r.Times j,nbf τ i t->(τ i=some t ↔ ∃ k,lap r τ i t k)
 in_:∀ i s,i < r.Bibs.length->τ i=some s->∃ l ∈ r.Times,s ∈ l
 ents:Ents r τ A
 ord:A.Pairwise ltO
theorem RunP.found {r:wAA} {D:List Int} {A:List wAC} {τ:Nat->Option Int} (h:RunP r D A τ):wEQ r A τ:=⟨h.ex,h.in_,h.ents,h.ord⟩
theorem wMg {τ τ':Nat->Option Int} {m:Nat} {j:Nat} (hp:∀ s,τ' j=some s->0 <= s) (ih:∀ k:Nat,k < m->τ' j=some (k:Int)->τ j=some (k:Int)) (h:nbf τ j m):nbf τ' j m:=fun s hs=>by
 rcases Int.lt_or_le s m with c | c
 ·have h0:=hp s hs
  obtain ⟨k,rfl⟩:∃ k:Nat,s=k:=⟨s.toNat,by omega⟩
  exact absurd (h k (ih k (by omega) hs)) (by omega)
 ·exact c
theorem wMh {r:wAA} (G:wDH r) {A A':List wAC} {τ τ':Nat->Option Int} (F:wEQ r A τ) (F':wEQ r A' τ'):∀ (m:Nat) (i:Nat),i < r.Bibs.length->(τ i=some (m:Int) ↔ τ' i=some (m:Int)):=by
 have pos:∀ {A:List wAC} {τ:Nat->Option Int},wEQ r A τ->∀ i,i < r.Bibs.length->∀ s,τ i=some s->0 <= s:=fun F i hi s h=>by
  obtain ⟨l,hl,hs⟩:=F.in_ i s hi h
  exact (G.pos l hl s hs).1
 have one:∀ {A A':List wAC} {τ τ':Nat->Option Int},wEQ r A τ->wEQ r A' τ'->∀ m:Nat,(∀ k:Nat,k < m->∀ i,i < r.Bibs.length->(τ i=some (k:Int) ↔ τ' i=some (k:Int)))->∀ i,i < r.Bibs.length->τ i=some (m:Int)->τ' i=some (m:Int):=fun {A A' τ τ'} F F' m ih i hi h=>by
  have nb:∀ j,j < r.Bibs.length->nbf τ j m->nbf τ' j m:=fun j hj=>wMg (pos F' j hj) fun k hk=>(ih k hk j hj).2
  have ni:nbf τ i m:=fun s hs=>by rw [h] at hs;cases hs;exact nJ _
  obtain ⟨l,hl,hs⟩:=F.in_ i m hi h
  obtain ⟨q,hq,e⟩:=nH hl
  have hq':q < r.Bibs.length:=by have:=G.t;omega
  have hs':(m:Int) ∈ gd r.Times q:=by rw [wBa hq,e];exact hs
  obtain ⟨k,h1,h2,h3,h4⟩:=(F.ex i hi q hq' m hs' ni).1 h
  exact (F'.ex i hi q hq' m hs' (nb i hi ni)).2 ⟨k,h1,nb k h1 h2,h3,h4⟩
 intro m
 induction m using Nat.strongRecOn with
 | ind m ih =>
  intro i hi
  exact ⟨one F F' m (fun k hk=>ih k hk) i hi,one F' F m (fun k hk j hj=>(ih k hk j hj).symm) i hi⟩
theorem wER {r:wAA} (G:wDH r) {A A':List wAC} {τ τ':Nat->Option Int} (F:wEQ r A τ) (F':wEQ r A' τ') {i:Nat} (hi:i < r.Bibs.length):τ i=τ' i:=by
 have key:=wMh G F F'
 have pos:∀ {A:List wAC} {τ:Nat->Option Int},wEQ r A τ->∀ s,τ i=some s->∃ m:Nat,s=m:=fun F s h=>by
  obtain ⟨l,hl,hs⟩:=F.in_ i s hi h
  have:=(G.pos l hl s hs).1
  exact ⟨s.toNat,by omega⟩
 cases c:τ i with
 | some s =>
  obtain ⟨m,rfl⟩:=pos F s c
  exact ((key m i hi).1 c).symm
 | none =>
  cases d:τ' i with
  | none=>rfl
  | some s =>
   obtain ⟨m,rfl⟩:=pos F' s d
   rw [(key m i hi).2 d] at c
   cases c
theorem wHh {r:wAA} (G:wDH r) {A A':List wAC} {τ τ':Nat->Option Int} (F:wEQ r A τ) (F':wEQ r A' τ') {o:wAC} (ho:o ∈ A):o ∈ A':=by
 obtain ⟨i,hi,E⟩:=F.ents.of o ho
 have ti:=wER G F F' hi
 obtain ⟨o',ho',eb⟩:=F'.ents.all i hi (by rw [<- ti,E.time];simp)
 obtain ⟨i',hi',E'⟩:=F'.ents.of o' ho'
 have:i'=i:=wDe G hi' hi (E'.bib.symm.trans eb)
 subst this
 have et:o.Time=o'.Time:=by
  have h1:=E.time;have h2:=E'.time
  rw [ti,h2] at h1
  exact (nk h1).symm
 have lp:∀ k,lap r τ i' o.Time k ↔ lap r τ' i' o'.Time k:=fun k=>by
  unfold lap
  rw [et]
  constructor
  ·rintro ⟨h1,h2,h3⟩
   exact ⟨h1,fun s hs=>h2 s (by rw [wER G F F' h1];exact hs),h3⟩
  ·rintro ⟨h1,h2,h3⟩
   exact ⟨h1,fun s hs=>h2 s (by rw [<- wER G F F' h1];exact hs),h3⟩
 obtain ⟨j,e1,l1,m1⟩:=E.by_
 obtain ⟨j',e2,l2,m2⟩:=E'.by_
 have b1:=m1 j' ((lp j').2 l2)
 have b2:=m2 j ((lp j).1 l1)
 have hb:=E.bib;have hd:=E.done;have hd':=E'.done
 obtain ⟨a1,a2,a3,a4⟩:=o
 obtain ⟨c1,c2,c3,c4⟩:=o'
 simp only at hb eb hd hd' et e1 e2 ⊢
 have:(⟨a1,a2,a3,a4⟩:wAC)=⟨c1,c2,c3,c4⟩:=by
  rw [hb,eb,hd,hd',et,show a4=c4 by omega]
 rw [this];exact ho'
theorem wLa {r:wAA} (G:wDH r) {A A':List wAC} {τ τ':Nat->Option Int} (F:wEQ r A τ) (F':wEQ r A' τ'):A=A':=by
 have nd:∀ {A:List wAC},A.Pairwise ltO->A.Nodup:=fun h=>nL.2 (h.imp fun {a b} hab e=>by
  subst e
  unfold ltO at hab
  omega)
 refine List.Perm.eq_of_pairwise (le:=ltO) (fun a b _ _ h1 h2=>by unfold ltO at h1 h2;omega) F.ord F'.ord ?_
 exact (List.perm_ext_iff_of_nodup (nd F.ord) (nd F'.ord)).2 fun o=>⟨wHh G F F',wHh G F' F⟩
end Go.Proofs.YtbpllbhagaoocaaGreat
namespace Go.Proofs.YtbpllbhagaoocaaGreat
open Go.KL
theorem wMi {K V:Type} [DecidableEq K] {m:List (K × V)} {x y:K} {v:V}:wFu (mput m x v) y=if y=x then some v else wFu m y:=by
 induction m with
 | nil=>simp only [mput,wFu]
 | cons p m ih =>
  obtain ⟨a,u⟩:=p
  rw [mput]
  by_cases h:x=a
  ·subst h
   rw [if_pos rfl,wFu,wFu]
   split <;> rfl
  ·rw [if_neg h,wFu,wFu,ih]
   by_cases h2:y=a
   ·rw [if_pos h2,if_neg (fun e:y=x=>h (e.symm.trans h2)),if_pos h2]
   ·rw [if_neg h2,if_neg h2]
theorem wMj {l:List Int} (hl:l.length <= 1000):wBs l=some (!decide l.Nodup):=by
 unfold wBs
 rw [wDW (by omega)]
 have key:∀ (m k:Nat) (t:List (Int × Bool)),k + m=l.length->(∀ n,wDi t n false=decide (n ∈ l.take k))->(l.take k).Nodup ->
   jn (forN (fun k20 l17 =>
  (idx l (↑k20:Int)).bind fun x41 =>
  if (wDi l17 x41 false)=true then
   esc (some true)
  else
   some (.inl (mput l17 x41 true))) m k t) (fun _=>some false)=some (!decide l.Nodup):=by
  intro m
  induction m with
  | zero =>
   intro k t hk _ hn
   rw [ny (by omega)] at hn
   simp [forN,hn]
  | succ m ih =>
   intro k t hk ht hn
   have hlt:k < l.length:=by omega
   rw [forN,wAN hlt,nA,ht]
   by_cases c:gd l k ∈ l.take k
   ·have:¬ l.Nodup:=fun h=>by
     rw [<- kD k l,wLW hlt] at h
     exact (nO.1 h).2.2 _ c _ (by simp) rfl
    simp [c,this]
   ·rw [if_neg (by simpa using c)]
    simp only
    refine ih (k + 1) _ (by omega) (fun n=>?_) ?_
    ·unfold wDi at ht ⊢
     rw [wMi,wDC hlt]
     by_cases e:n=gd l k
     ·rw [if_pos e];simp [e]
     ·rw [if_neg e,ht];simp [e]
    ·rw [wDC hlt,nO]
     exact ⟨hn,by simp,fun a ha b hb e=>by simp at hb;subst hb;subst e;exact c ha⟩
 exact key l.length 0 [] (by omega) (fun n=>by simp [wDi,wFu]) (by simp)
theorem wOi (x a b:Int):wBz x a b=some (decide (a <= x) && decide (x <= b)):=by
 unfold wBz
 by_cases h:a <= x <;> simp [h]
theorem wJC {l:List (List Int)} {f:List Int->Option Bool} {g:List Int->Bool} (hn:l.length <= 1000) (h:∀ a ∈ l,f a=some (g a)):wBT l f=some (l.all g):=by
 unfold wBT
 rw [wDd (fun k=>g (gd l k)) false hn fun i hi=>by
  rw [wAN hi,nA,h _ (wAO hi),nA]
  split <;> rfl,wCP]
 by_cases c:wGV (fun k=>g (gd l k)) l.length 0=true
 ·rw [if_pos c,c];rfl
 ·rw [if_neg c,nP.2 c];rfl
theorem wJD {l:List Int} {f:Int->Option Bool} {g:Int->Bool} (hn:l.length <= 1000) (h:∀ a ∈ l,f a=some (g a)):wAx l f=some (l.all g):=by
 unfold wAx
 rw [wDd (fun k=>g (gd l k)) false hn fun i hi=>by
  rw [wAN hi,nA,h _ (wAO hi),nA]
  split <;> rfl,wCP]
 by_cases c:wGV (fun k=>g (gd l k)) l.length 0=true
 ·rw [if_pos c,c];rfl
 ·rw [if_neg c,nP.2 c];rfl
def rng (a b x:Int):Bool:=decide (a <= x) && decide (x <= b)
def wHn (l:List Int):Bool:=wGV (fun k=>decide (gd l k < gd l (k + 1))) (l.length - 1) 0
theorem wOj {l:List Int} (h:wHn l=true):l.Pairwise (· < ·):=by
 unfold wHn at h
 have h1:=(wCO _ _ _).1 h
 rw [nE]
 intro i j hi hj hij
 rw [<- wBa hi,<- wBa hj]
 have key:∀ d,i + 1 + d < l.length->gd l i < gd l (i + 1 + d):=by
  intro d
  induction d with
  | zero=>intro hd;simpa using h1 i (by omega) (by omega)
  | succ d ih =>
   intro hd
   have a:=ih (by omega)
   have b:=h1 (i + 1 + d) (by omega) (by omega)
   simp only [decide_eq_true_iff] at b
   rw [show i + 1 + (d + 1)=i + 1 + d + 1 by omega]
   omega
 have:=key (j - i - 1) (by omega)
 rwa [show i + 1 + (j - i - 1)=j by omega] at this
def code (r:wAA):Int :=
 if rng 1 20 r.Laps=true then
  if 60 < (r.Bibs.length:Int) then 2
  else if (r.Times.length:Int)=(r.Bibs.length:Int) then
   if (r.Times.all fun l=>decide ((l.length:Int) <= r.Laps))=true then
    if r.Bibs.all (rng 1 999)=true then
     if (r.Times.all fun l=>l.all (rng 0 360000))=true then
      if r.Bibs.Nodup then (if r.Times.all wHn=true then 0 else 4) else 5
     else 3
    else 3
   else 2
  else 2
 else 2
structure wJd (r:wAA):Prop where
 b:r.Bibs.length <= 64
 t:r.Times.length <= 64
 l:∀ l ∈ r.Times,l.length <= 24
theorem wMk {l:List Int} (hl:l.length <= 24):(jn (wFE 1 (↑l.length:Int) (fun k132 (_:Unit) =>
                    (idx l (1 + ↑k132:Int)).bind fun x155 =>
                    (idx l (w64 ((1 + ↑k132:Int) - 1))).bind fun x163 =>
                    if x155 <= x163 then
                      esc (esc (some (4:Int)))
                    else
                      some (.inl ())) ()) fun _ =>
                  (some (.inl ()):Option (Unit ⊕ Int)))=some (if wHn l=true then .inl () else .inr 4):=by
  unfold wFE
  rw [if_pos (by omega)]
  have:=wGv (B:=Unit ⊕ Int) (body:=fun k132 (_:Unit) =>
                    (idx l (1 + ↑k132:Int)).bind fun x155 =>
                    (idx l (w64 ((1 + ↑k132:Int) - 1))).bind fun x163 =>
                    if x155 <= x163 then
                      esc (esc (some (4:Int)))
                    else
                      some (.inl ())) (f:=fun k=>if (decide (gd l k < gd l (k + 1)))=true then none else some (.inr 4)) (l.length - 1) 0 fun i _ hi=>by
    have e1:(1 + (i:Int))=((i + 1:Nat):Int):=by omega
    rw [wAe (by omega) (by omega),e1,show ((i + 1:Nat):Int) - 1=(i:Int) by omega,wAN (by omega),nA,wAN (by omega),nA]
    by_cases c:gd l i < gd l (i + 1)
    · rw [if_neg (by omega),if_pos (by simpa using c)];rfl
    · rw [if_pos (by omega),if_neg (by simpa using c)];rfl
  rw [show ((l.length:Int) - 1).toNat=l.length - 1 by omega,this,wHe]
  unfold wHn
  by_cases c:wGV (fun k=>decide (gd l k < gd l (k + 1))) (l.length - 1) 0=true
  · rw [if_pos c,if_pos c];rfl
  · rw [if_neg c,if_neg c];rfl
theorem wHi {r:wAA} (S:wJd r):wAu r=some (code r):=by
 have h1:=S.b;have h2:=S.t
 unfold wAu code
 rw [wOi,nA]
 show (if rng 1 20 r.Laps=true then _ else _)=_
 by_cases c0:rng 1 20 r.Laps=true
 ·rw [if_pos c0,if_pos c0]
  by_cases c1:60 < (r.Bibs.length:Int)
  ·rw [if_pos c1,if_pos c1]
  ·rw [if_neg c1,if_neg c1]
   by_cases c2:(r.Times.length:Int)=(r.Bibs.length:Int)
   ·rw [if_pos c2,if_pos c2,wJC (l:=r.Times) (f:=fun x=>wAr x r) (g:=fun l=>decide ((l.length:Int) <= r.Laps)) (by omega) (fun a _=>rfl),nA]
    by_cases c3:(r.Times.all fun l=>decide ((l.length:Int) <= r.Laps))=true
    ·rw [if_pos c3,if_pos c3,wJD (g:=rng 1 999) (by omega) (fun a _=>by unfold wAs;rw [wOi];rfl),nA]
     by_cases c4:r.Bibs.all (rng 1 999)=true
     ·rw [if_pos c4,if_pos c4,wJC (g:=fun l=>l.all (rng 0 360000)) (by omega) (fun a ha=>by
       have:=S.l a ha
       unfold wAt
       rw [wJD (g:=rng 0 360000) (by omega) (fun a _=>by unfold wAn;rw [wOi];rfl)];rfl),nA]
      by_cases c5:(r.Times.all fun l=>l.all (rng 0 360000))=true
      ·rw [if_pos c5,if_pos c5,wMj (by omega),nA]
       by_cases c6:r.Bibs.Nodup
       ·rw [if_neg (by simp [c6]),if_pos c6,wDd (fun k=>wHn (gd r.Times k)) (4:Int) (by omega) fun i hi=>by
         rw [wAN hi,nA]
         exact wMk (S.l _ (wAO hi)),<- wCP]
        by_cases c7:r.Times.all wHn=true
        ·rw [if_pos c7,if_pos c7];rfl
        ·rw [if_neg c7,if_neg c7];rfl
       ·rw [if_pos (by simp [c6]),if_neg c6]
      ·rw [if_neg c5,if_neg c5]
     ·rw [if_neg c4,if_neg c4]
    ·rw [if_neg c3,if_neg c3]
   ·rw [if_neg c2,if_neg c2]
 ·rw [if_neg c0,if_neg c0]
theorem wLb {r:wAA} (h:code r=0):wDH r:=by
 unfold code at h
 by_cases c0:rng 1 20 r.Laps=true
 ·rw [if_pos c0] at h
  by_cases c1:60 < (r.Bibs.length:Int)
  ·rw [if_pos c1] at h;cases h
  rw [if_neg c1] at h
  by_cases c2:(r.Times.length:Int)=(r.Bibs.length:Int)
  ·rw [if_pos c2] at h
   by_cases c3:(r.Times.all fun l=>decide ((l.length:Int) <= r.Laps))=true
   ·rw [if_pos c3] at h
    by_cases c4:r.Bibs.all (rng 1 999)=true
    ·rw [if_pos c4] at h
     by_cases c5:(r.Times.all fun l=>l.all (rng 0 360000))=true
     ·rw [if_pos c5] at h
      by_cases c6:r.Bibs.Nodup
      ·rw [if_pos c6] at h
       by_cases c7:r.Times.all wHn=true
       ·rw [nh] at c3 c5 c7
        unfold rng at c0
        simp at c0
        refine ⟨by omega,by omega,fun l hl=>?_,fun l hl=>wOj (c7 l hl),fun l hl x hx=>?_,c6⟩
        ·have:=c3 l hl
         simp at this
         omega
        ·have:=nh.1 (c5 l hl) x hx
         unfold rng at this
         simpa using this
       ·rw [if_neg c7] at h;cases h
      ·rw [if_neg c6] at h;cases h
     ·rw [if_neg c5] at h;cases h
    ·rw [if_neg c4] at h;cases h
   ·rw [if_neg c3] at h;cases h
  ·rw [if_neg c2] at h;cases h
 ·rw [if_neg c0] at h;cases h
end Go.Proofs.YtbpllbhagaoocaaGreat
namespace Go.Proofs.YtbpllbhagaoocaaGreat
open Go.KL
def cvR (r:wAA):wAH:=⟨r.Laps,r.Bibs,r.Times⟩
def k5 (r:wAA) (x212:Int) (x230:Int):Option (Int ⊕ (Int ⊕ Int)) :=
                        (idx r.Times x212).bind fun x244 =>
                        if x230 < (↑x244.length:Int) then
                          (idx x244 x230).bind fun x275 =>
                          (idx x244 (w64 (x230 - 1))).bind fun x291 =>
                          if x275 <= x291 then
                            esc (esc (some 4))
                          else
                            some (.inl (w64 (x230 + 1)))
                        else
                          esc (some (.inl (w64 (x212 + 1))))
def k4 (r:wAA) (x212:Int):Option (Int ⊕ Int) :=
                    if x212 < (↑r.Times.length:Int) then
                      iter (k5 r x212) big 1
                    else
                      esc (some 0)
def k3 (r:wAA) (x71:Int) (x115:Int):Option (Int ⊕ (Int ⊕ Int)) :=
                    (idx r.Times x71).bind fun x129 =>
                    if x115 < (↑x129.length:Int) then
                      (idx x129 x115).bind fun x157 =>
                      (wAU x157 0 360000).bind fun x164 =>
                      if x164=true then
                        esc (esc (some 3))
                      else
                        some (.inl (w64 (x115 + 1)))
                    else
                      esc (some (.inl (w64 (x71 + 1))))
def k2 (r:wAA) (x71:Int):Option (Int ⊕ Int) :=
              if x71 < (↑r.Bibs.length:Int) then
                (idx r.Bibs x71).bind fun x86 =>
                (wAU x86 1 999).bind fun x96 =>
                if x96=true then
                  esc (some 3)
                else
                  iter (k3 r x71) big 0
              else
                esc ((wAo r.Bibs).bind fun x196 =>
                if x196=true then
                  some 5
                else
                  iter (k4 r) big 0)
def k1 (r:wAA) (x26:Int):Option (Int ⊕ Int) :=
          if x26 < (↑r.Times.length:Int) then
            (idx r.Times x26).bind fun x43 =>
            if r.Laps < (↑x43.length:Int) then
              esc (some 2)
            else
              some (.inl (w64 (x26 + 1)))
          else
            esc (iter (k2 r) big 0)
theorem wJe (r:wAA):wAT (cvR r) =
 (wAU r.Laps 1 20).bind fun x5 =>
 if x5=true then
  some 2
 else
  if 60 < (↑r.Bibs.length:Int) then
   some 2
  else
   if (↑r.Times.length:Int)=(↑r.Bibs.length:Int) then
    iter (k1 r) big 0
   else
    some 2:=rfl
theorem wLc (x a b:Int):wAU x a b=some (!rng a b x):=by
 unfold wAU rng
 by_cases h:x < a
 ·have:¬ a <= x:=by omega
  simp [h,this]
 ·have:a <= x:=by omega
  rw [if_neg h]
  by_cases c:b < x
  ·have:¬ x <= b:=by omega
   simp [c,this]
  ·have d:x <= b:=by omega
   simp [c,d,this]
theorem wLd {l:List Int} (hl:l.length <= 1000):wAo l=some (!decide l.Nodup):=by
 unfold wAo
 rw [wDd (fun k=>wGV (fun j=>decide (gd l k ≠ gd l j)) k 0) true hl fun k hk=>by
  rw [wDd (fun j=>decide (gd l k ≠ gd l j)) (.inr true) (by omega) fun j hj=>by
   rw [wAN hk,nA,wAN (by omega),nA]
   by_cases c:gd l k=gd l j
   ·rw [if_pos c,if_neg (by simp [c])];rfl
   ·rw [if_neg c,if_pos (by simpa using c)]]
  split <;> rfl]
 have key:wGV (fun k=>wGV (fun j=>decide (gd l k ≠ gd l j)) k 0) l.length 0=decide l.Nodup:=by
  rw [Bool.eq_iff_iff,wCO,decide_eq_true_iff,nL,nE]
  constructor
  ·intro h i j hi hj hij e
   have:=(wCO _ _ _).1 (h j (by omega) (by omega)) i (by omega) (by omega)
   rw [wBa hj,wBa hi] at this
   simp at this
   exact this e.symm
  ·intro h k _ hk
   refine (wCO _ _ _).2 fun j _ hj=>decide_eq_true fun e=>?_
   rw [wBa (by omega),wBa (show j < l.length by omega)] at e
   exact h j k (by omega) (by omega) (by omega) e.symm
 rw [key]
 by_cases c:l.Nodup
 ·rw [if_pos (decide_eq_true c)];simp [c,jn]
 ·rw [if_neg (by simpa using c)];simp [c,jn]
theorem wGW (q:Nat->Bool):∀ m k,wGV (fun i=>q (i + 1)) m k=wGV q m (k + 1)
 | 0,k=>rfl
 | m + 1,k=>by rw [wGV,wGV,wGW q m (k + 1)]
theorem wLe {B:Type} {body:Int->Option (Int ⊕ B)} {f:Nat->Option B} {z:B} {n lo:Nat} (h:∀ i,lo <= i->i < n->body (i:Int)=some (out ((i:Int) + 1) (f i))) (hz:body (n:Int)=some (.inr z)):∀ (m k F:Nat),lo <= k->k + m=n->m < F->iter body F (k:Int)=some ((fnd f m k).getD z)
 | 0,k,F,hk0,hk,hF=>by
  obtain ⟨F,rfl⟩:∃ G,F=G + 1:=⟨F - 1,by omega⟩
  obtain rfl:k=n:=by omega
  rw [iter,hz]
  rfl
 | m + 1,k,F,hk0,hk,hF=>by
  obtain ⟨F,rfl⟩:∃ G,F=G + 1:=⟨F - 1,by omega⟩
  rw [iter,h k hk0 (by omega),fnd]
  cases f k with
  | none=>exact wLe h hz m (k + 1) F (by omega) (by omega) (by omega)
  | some c=>rfl
theorem k5_is {r:wAA} {i:Nat} (hi:i < r.Times.length) (ht:r.Times.length <= 64) (hl:(gd r.Times i).length <= 24):iter (k5 r (i:Int)) big 1=some (if wHn (gd r.Times i)=true then .inl ((i:Int) + 1) else .inr 4):=by
 have hend:∀ x:Int,¬ x < ((gd r.Times i).length:Int)->k5 r (i:Int) x=some (.inr (.inl ((i:Int) + 1))):=fun x hx=>by
  unfold k5
  rw [wAN hi,nA,if_neg hx,wAe (by omega) (by omega)]
  rfl
 by_cases h0:(gd r.Times i).length=0
 ·have:wHn (gd r.Times i)=true:=by unfold wHn;rw [h0];rfl
  rw [if_pos this,show big=(big - 1) + 1 by decide,iter,hend 1 (by omega)]
 ·have:=wLe (body:=k5 r (i:Int)) (f:=fun k=>if decide (gd (gd r.Times i) (k - 1) < gd (gd r.Times i) k)=true then none else some (.inr 4)) (z:=.inl ((i:Int) + 1)) (n:=(gd r.Times i).length) (lo:=1) (fun q hq1 hq=>by
   unfold k5
   rw [wAN hi,nA,if_pos (by omega),wAN hq,nA,wAe (x:=(q:Int) - 1) (by omega) (by omega),show (q:Int) - 1=((q - 1:Nat):Int) by omega,wAN (by omega),nA]
   by_cases c:gd (gd r.Times i) (q - 1) < gd (gd r.Times i) q
   ·rw [if_neg (by omega),if_pos (by simpa using c),wAe (by omega) (by omega)];rfl
   ·rw [if_pos (by omega),if_neg (by simpa using c)];rfl) (hend _ (by omega)) ((gd r.Times i).length - 1) 1 big (by omega) (by omega) (by unfold big;omega)
  rw [show ((1:Nat):Int)=1 from rfl] at this
  rw [this,wHe,<- wGW]
  unfold wHn
  simp only [Nat.add_sub_cancel]
  split <;> rfl
theorem k3_is {r:wAA} {i:Nat} (hi:i < r.Times.length) (ht:r.Times.length <= 64) (hl:(gd r.Times i).length <= 24):iter (k3 r (i:Int)) big 0=some (if (gd r.Times i).all (rng 0 360000)=true then .inl ((i:Int) + 1) else .inr 3):=by
 rw [wEx (n:=(gd r.Times i).length) (fun q=>rng 0 360000 (gd (gd r.Times i) q)) (.inr 3) (z:=.inl ((i:Int) + 1)) (by omega) (fun q hq=>by
  unfold k3
  rw [wAN hi,nA,if_pos (by omega),wAN hq,nA,wLc,nA]
  by_cases c:rng 0 360000 (gd (gd r.Times i) q)=true
  ·rw [if_pos c,c,if_neg (by decide),wAe (by omega) (by omega)]
  ·rw [if_neg c,nP.2 c,if_pos (by decide)];rfl) (by
  unfold k3
  rw [wAN hi,nA,if_neg (by omega),wAe (by omega) (by omega)]
  rfl),<- wCP]
theorem k4_is {r:wAA} (S:wJd r):iter (k4 r) big 0=some (if r.Times.all wHn=true then 0 else 4):=by
 have h2:=S.t
 rw [wEx (n:=r.Times.length) (fun q=>wHn (gd r.Times q)) (4:Int) (z:=0) (by omega) (fun q hq=>by
  unfold k4
  rw [if_pos (by omega),k5_is hq h2 (S.l _ (wAO hq))]) (by
  unfold k4
  rw [if_neg (by omega)];rfl),<- wCP]
theorem k2_is {r:wAA} (S:wJd r) (hn:r.Times.length=r.Bibs.length):iter (k2 r) big 0=some (if r.Bibs.all (rng 1 999)=true then (if (r.Times.all fun l=>l.all (rng 0 360000))=true then (if r.Bibs.Nodup then (if r.Times.all wHn=true then 0 else 4) else 5) else 3) else 3):=by
 have h1:=S.b;have h2:=S.t
 rw [wEx (n:=r.Bibs.length) (fun q=>rng 1 999 (gd r.Bibs q) && (gd r.Times q).all (rng 0 360000)) (3:Int) (z:=if r.Bibs.Nodup then (if r.Times.all wHn=true then 0 else 4) else 5) (by omega) (fun q hq=>by
  unfold k2
  rw [if_pos (by omega),wAN hq,nA,wLc,nA]
  by_cases c:rng 1 999 (gd r.Bibs q)=true
  ·rw [c,if_neg (by decide),k3_is (by omega) h2 (S.l _ (wAO (by omega))),Bool.true_and]
  ·rw [nP.2 c,if_pos (by decide),Bool.false_and,if_neg (by decide)];rfl) (by
  unfold k2
  rw [if_neg (by omega),wLd (by omega),nA,k4_is S]
  by_cases c:r.Bibs.Nodup
  ·rw [if_neg (by simp [c]),if_pos c];rfl
  ·rw [if_pos (by simp [c]),if_neg c];rfl)]
 have e1:=wCP (rng 1 999) r.Bibs
 have e2:=wCP (fun l=>List.all l (rng 0 360000)) r.Times
 have key:wGV (fun q=>rng 1 999 (gd r.Bibs q) && (gd r.Times q).all (rng 0 360000)) r.Bibs.length 0=(r.Bibs.all (rng 1 999) && r.Times.all fun l=>l.all (rng 0 360000)):=by
  rw [e1,e2,hn,Bool.eq_iff_iff,nj,wCO,wCO,wCO]
  constructor
  ·intro h
   exact ⟨fun i a b=>(nj _ _ ▸ h i a b).1,fun i a b=>(nj _ _ ▸ h i a b).2⟩
  ·intro h i a b
   rw [nj]
   exact ⟨h.1 i a b,h.2 i a b⟩
 rw [key]
 by_cases c:r.Bibs.all (rng 1 999)=true
 ·rw [c,Bool.true_and,if_pos rfl]
 ·rw [nP.2 c,Bool.false_and];rfl
theorem wJE {r:wAA} (S:wJd r):wAT (cvR r)=some (code r):=by
 have h1:=S.b;have h2:=S.t
 rw [wJe,wLc,nA]
 unfold code
 by_cases c0:rng 1 20 r.Laps=true
 ·rw [c0,if_neg (by decide),if_pos rfl]
  by_cases c1:60 < (r.Bibs.length:Int)
  ·rw [if_pos c1,if_pos c1]
  ·rw [if_neg c1,if_neg c1]
   by_cases c2:(r.Times.length:Int)=(r.Bibs.length:Int)
   ·rw [if_pos c2,if_pos c2,wEx (n:=r.Times.length) (fun q=>decide (((gd r.Times q).length:Int) <= r.Laps)) (2:Int) (by omega) (fun q hq=>by
     unfold k1
     rw [if_pos (by omega),wAN hq,nA]
     by_cases c:((gd r.Times q).length:Int) <= r.Laps
     ·rw [if_neg (by omega),if_pos (by simpa using c),wAe (by omega) (by omega)]
     ·rw [if_pos (by omega),if_neg (by simpa using c)];rfl) (by
     unfold k1
     rw [if_neg (by omega),k2_is S (by omega)];rfl),<- wCP (fun l:List Int=>decide ((l.length:Int) <= r.Laps))]
   ·rw [if_neg c2,if_neg c2]
 ·rw [nP.2 c0,if_pos (by decide)];rfl
end Go.Proofs.YtbpllbhagaoocaaGreat
namespace Go.Proofs.YtbpllbhagaoocaaGreat
open Go.KL
abbrev RO:=List wAJ
abbrev QS:=(List Int) × RO × Int
abbrev QR:=QS ⊕ (RO × (List Int))
abbrev XS:=(List Int) × RO × RO
def zB (r:wAA) (x95:Int) (l517:RO) (y550:Int) (x611:RO):(List Int) × Int->Option (((List Int) × Int) ⊕ (XS ⊕ QR))
  | (l625,x626) =>
                        if x626 < (↑r.Bibs.length:Int) then
                          (idx r.Bibs x626).bind fun x650 =>
                          if x650=((gd l517 y550.toNat).Bib) then
                            (chk x626 l625.length).bind fun _ =>
                            some (.inl ((nV l625 x626.toNat x95),w64 (x626 + 1)))
                          else
                            some (.inl (l625,w64 (x626 + 1)))
                        else
                          esc ((cut l517 0 y550).bind fun x684 =>
                          (cut l517 (w64 (y550 + 1)) (↑(l517.length):Int)).bind fun x693 =>
                          (app 32 x684 x693).bind fun x709 =>
                          some (.inl (l625,x611,x709)))
def fstB (l517:RO) (k545:Nat) (x544:Int):Option Int :=
                        (chk (1 + ↑k545:Int) l517.length).bind fun _ =>
                        (chk x544 l517.length).bind fun _ =>
                        if ((gd l517 (1 + ↑k545:Int).toNat).Bib) < ((gd l517 x544.toNat).Bib) then
                          some (1 + ↑k545:Int)
                        else
                          some x544
def xB (r:wAA) (x95:Int):XS->Option (XS ⊕ QR)
  | (l513,l514,l517) =>
                    if 0 < (↑l517.length:Int) then
                      (wBu 1 (↑l517.length:Int) (fstB l517) 0).bind fun y550 =>
                      (chk y550 l517.length).bind fun _ =>
                      (app 32 l514 [(gd l517 y550.toNat)]).bind fun x611 =>
                      iter (zB r x95 l517 y550 x611) big (l513,0)
                    else
                      esc (some (.inl (l513,l514,x95)))
def byB (r:wAA) (l66:List Int) (x95 x273 x289 x290:Int):Option Int :=
                        (idx r.Times x290).bind fun x319 =>
                        (chk x290 l66.length).bind fun _ =>
                        (wAM x319 x95 (gd l66 x290.toNat)).bind fun x336 =>
                        if (gd l66 x290.toNat) < 0 then
                          if (w64 (x273 + 2)) <= x336 then
                            (idx x319 (w64 (x336 - 1))).bind fun x374 =>
                            if x374=x95 then
                              if x289=0 then
                                (idx r.Bibs x290).bind fun x385 =>
                                some x385
                              else
                                (idx r.Bibs x290).bind fun x401 =>
                                if x401 < x289 then
                                  some x401
                                else
                                  some x289
                            else
                              some x289
                          else
                            some x289
                        else
                          some x289
def yB (r:wAA) (l66:List Int) (x95:Int) (l221:RO) (x225 x273:Int):Int × Int->Option ((Int × Int) ⊕ ((RO × Int) ⊕ QR))
  | (x289,x290) =>
                      if x290 < (↑r.Bibs.length:Int) then
                        (byB r l66 x95 x273 x289 x290).bind fun x313 =>
                        some (.inl (x313,w64 (x290 + 1)))
                      else
                        esc (if 0 < x289 then
                          (idx r.Bibs x225).bind fun x453 =>
                          (app 32 l221 [(⟨x453,x273,x95,x289⟩:wAJ)]).bind fun x471 =>
                          some (.inl (x471,w64 (x225 + 1)))
                        else
                          some (.inl (l221,w64 (x225 + 1))))
def nB (r:wAA) (l66:List Int) (l67:RO) (x95:Int):RO × Int->Option ((RO × Int) ⊕ QR)
  | (l221,x225) =>
                if x225 < (↑r.Bibs.length:Int) then
                  (chk x225 l66.length).bind fun _ =>
                  if 0 <= (gd l66 x225.toNat) then
                    some (.inl (l221,w64 (x225 + 1)))
                  else
                    (idx r.Times x225).bind fun x257 =>
                    (wAM x257 x95 (-1)).bind fun x273 =>
                    iter (yB r l66 x95 l221 x225 x273) big (0,0)
                else
                  esc (iter (xB r x95) big (l66,l67,l221))
def bB (r:wAA) (x71 x96:Int):Int × Int->Option ((Int × Int) ⊕ ((Int × Int) ⊕ QR))
  | (x121,x122) =>
              (idx r.Times x96).bind fun x140 =>
              if x122 < (↑x140.length:Int) then
                (idx x140 x122).bind fun x167 =>
                if x71 < x167 then
                  if x121 < 0 then
                    some (.inl (x167,w64 (x122 + 1)))
                  else
                    if x167 < x121 then
                      some (.inl (x167,w64 (x122 + 1)))
                    else
                      some (.inl (x121,w64 (x122 + 1)))
                else
                  some (.inl (x121,w64 (x122 + 1)))
              else
                esc (some (.inl (x121,w64 (x96 + 1))))
def aB (r:wAA) (l66:List Int) (l67:RO) (x71:Int):Int × Int->Option ((Int × Int) ⊕ QR)
  | (x95,x96) =>
          if x96 < (↑r.Times.length:Int) then
            iter (bB r x71 x96) big (x95,0)
          else
            esc (if x95 < 0 then
              esc (some (l67,l66))
            else
              iter (nB r l66 l67 x95) big ([],0))
def qB (r:wAA):QS->Option QR
 | (l66,l67,x71)=>iter (aB r l66 l67 x71) big (-1,0)
def gB (r:wAA):(List Int) × Int->Option (((List Int) × Int) ⊕ (RO × (List Int)))
 | (l19,x20) =>
  if x20 < (↑l19.length:Int) then
   (chk x20 l19.length).bind fun _ =>
   some (.inl ((nV l19 x20.toNat (-1)),w64 (x20 + 1)))
  else
   esc (iter (qB r) big (l19,[],-1))
theorem wIa (r:wAA):wBA (cvR r)=(mkz 8 (↑r.Bibs.length:Int) (0:Int)).bind fun x5=>iter (gB r) big (x5,0):=rfl
def fB2 (p1 p2:Int) (l:List Int) (k7:Nat) (x6:Int):Option Int :=
  (idx l (↑k7:Int)).bind fun x29 =>
  if x29 <= p1 then
   if p2 < 0 then
    some (w64 (x6 + 1))
   else
    if x29 <= p2 then
     some (w64 (x6 + 1))
    else
     some x6
  else
   some x6
theorem wLf {l:List Int} (hl:l.length <= 1000) (t g:Int):wAM l t g=some (if g < 0 then (cn l t:Int) else (cn l (if t <= g then t else g):Int)):=by
 have key:∀ u:Int,(∀ x:Int,(x <= u ↔ x <= t/\(g < 0 \/ x <= g)))->wBu 0 (↑l.length:Int) (fB2 t g l) 0=some (cn l u:Int):=fun u hu=>by
  have:=wFo (body:=fB2 t g l) (n:=l.length) (s0:=0) (fun k=>(cn (l.take k) u:Int)) (by simp [cn]) (by omega) (fun i hi=>by
   unfold fB2
   have hc:=wGA (l.take i) u
   rw [ng] at hc
   rw [wAN hi,nA,wDC hi]
   unfold cn at hc ⊢
   rw [nq]
   have hx:=hu (gd l i)
   by_cases c1:gd l i <= t
   ·rw [if_pos c1]
    by_cases c2:g < 0
    ·have:gd l i <= u:=hx.2 ⟨c1,.inl c2⟩
     rw [if_pos c2,wAe (by omega) (by omega)];simp [this]
    ·rw [if_neg c2]
     by_cases c3:gd l i <= g
     ·have:gd l i <= u:=hx.2 ⟨c1,.inr c3⟩
      rw [if_pos c3,wAe (by omega) (by omega)];simp [this]
     ·have:¬ gd l i <= u:=fun h=>by have:=hx.1 h;omega
      rw [if_neg c3];simp [this]
   ·have:¬ gd l i <= u:=fun h=>by have:=hx.1 h;omega
    rw [if_neg c1];simp [this])
  rw [nK] at this
  exact this
 have e:wAM l t g=(wBu 0 (↑l.length:Int) (fB2 t g l) 0).bind fun y12=>some y12:=rfl
 rw [e]
 by_cases c:g < 0
 ·rw [if_pos c,key t (fun x=>by omega),nA]
 ·rw [if_neg c]
  by_cases d:t <= g
  ·rw [if_pos d,key t (fun x=>by omega),nA]
  ·rw [if_neg d,key g (fun x=>by omega),nA]
end Go.Proofs.YtbpllbhagaoocaaGreat
namespace Go.Proofs.YtbpllbhagaoocaaGreat
open Go.KL
theorem wMl {S B:Type} {body:S->Option (S ⊕ B)} {X:Option B} {F:Nat} {s:S} (h:body s=esc X):iter body (F + 1) s=X:=by
 rw [iter,h]
 cases X <;> rfl
theorem wDX {S B:Type} {body:S->Option (S ⊕ B)} (I:Nat->S->Prop) (m:Nat) {s0:S} (h0:I 0 s0) (hm:m < 1000000) (step:∀ i s,i < m->I i s->∃ s',body s=some (.inl s')/\I (i + 1) s'):∃ s,I m s/\∀ X,body s=esc X->iter body big s0=X:=by
 have key:∀ (d i:Nat) (s:S),i + d=m->I i s->∀ F,d < F->∃ s',I m s'/\∀ X,body s'=esc X->iter body F s=X:=by
  intro d
  induction d with
  | zero =>
   intro i s hi hI F hF
   obtain ⟨F,rfl⟩:∃ G,F=G + 1:=⟨F - 1,by omega⟩
   obtain rfl:i=m:=by omega
   exact ⟨s,hI,fun X h=>wMl h⟩
  | succ d ih =>
   intro i s hi hI F hF
   obtain ⟨F,rfl⟩:∃ G,F=G + 1:=⟨F - 1,by omega⟩
   obtain ⟨s',h1,h2⟩:=step i s (by omega) hI
   obtain ⟨s'',h3,h4⟩:=ih (i + 1) s' (by omega) h2 F (by omega)
   exact ⟨s'',h3,fun X h=>by rw [iter,h1];exact h4 X h⟩
 exact key m 0 s0 (by omega) h0 big (by unfold big;omega)
def Mn (last:Int) (seen:Int->Prop) (x:Int):Prop:=(x=-1/\∀ y,seen y->y <= last) \/ (last < x/\seen x/\∀ y,seen y->last < y->x <= y)
theorem Mn.congr {last:Int} {p q:Int->Prop} {x:Int} (h:Mn last p x) (e:∀ y,p y ↔ q y):Mn last q x:=by
 have:p=q:=funext fun y=>propext (e y)
 exact this ▸ h
theorem bB_is {r:wAA} (G:wDH r) {last:Int} (hl:-1 <= last) {i:Nat} (hi:i < r.Times.length) {seen:Int->Prop} {x:Int} (h:Mn last seen x):∃ x',iter (bB r last (i:Int)) big (x,0)=some (.inl (x',(i:Int) + 1))/\Mn last (fun y=>seen y \/ y ∈ gd r.Times i) x':=by
 have hn:=G.n;have ht:=G.t
 have hli:=G.len _ (wAO hi)
 obtain ⟨⟨x',k'⟩,⟨hk,hM⟩,hend⟩:=wDX (body:=bB r last (i:Int)) (s0:=(x,(0:Int))) (fun q s=>s.2=(q:Int)/\Mn last (fun y=>seen y \/ y ∈ (gd r.Times i).take q) s.1) (gd r.Times i).length ⟨rfl,h.congr fun y=>by simp⟩ (by omega) (fun q s hq ⟨h1,h2⟩=>by
  obtain ⟨x,k⟩:=s
  simp only at h1 h2
  subst h1
  unfold bB
  simp only
  rw [wAN hi,nA,if_pos (by omega),wAN hq,nA,wAe (by omega) (by omega)]
  have hs:∀ y,(seen y \/ y ∈ (gd r.Times i).take (q + 1)) ↔ ((seen y \/ y ∈ (gd r.Times i).take q) \/ y=gd (gd r.Times i) q):=fun y=>by
   rw [wDC hq,nI,nG,or_assoc]
  generalize gd (gd r.Times i) q=v at hs
  have fin:∀ x',Mn last (fun y=>(seen y \/ y ∈ (gd r.Times i).take q) \/ y=v) x'->∃ s',some (.inl (x',(q:Int) + 1))=(some (.inl s'):Option ((Int × Int) ⊕ ((Int × Int) ⊕ QR)))/\s'.2=((q + 1:Nat):Int)/\Mn last (fun y=>seen y \/ y ∈ (gd r.Times i).take (q + 1)) s'.1:=fun x' hx=>⟨_,rfl,rfl,hx.congr fun y=>(hs y).symm⟩
  by_cases c:last < v
  ·rw [if_pos c]
   rcases h2 with ⟨rfl,h3⟩ | ⟨h3,h4,h5⟩
   ·rw [if_pos (by omega)]
    exact fin v (.inr ⟨c,.inr rfl,fun y hy hly=>by
     rcases hy with hy | hy
     ·have:=h3 y hy;omega
     ·omega⟩)
   ·rw [if_neg (by omega)]
    by_cases d:v < x
    ·rw [if_pos d]
     exact fin v (.inr ⟨c,.inr rfl,fun y hy hly=>by
      rcases hy with hy | hy
      ·have:=h5 y hy hly;omega
      ·omega⟩)
    ·rw [if_neg d]
     exact fin x (.inr ⟨h3,.inl h4,fun y hy hly=>by
      rcases hy with hy | hy
      ·exact h5 y hy hly
      ·omega⟩)
  ·rw [if_neg c]
   rcases h2 with ⟨rfl,h3⟩ | ⟨h3,h4,h5⟩
   ·exact fin _ (.inl ⟨rfl,fun y hy=>by
     rcases hy with hy | hy
     ·exact h3 y hy
     ·omega⟩)
   ·exact fin x (.inr ⟨h3,.inl h4,fun y hy hly=>by
     rcases hy with hy | hy
     ·exact h5 y hy hly
     ·omega⟩))
 simp only at hk hM
 subst hk
 refine ⟨x',hend _ ?_,hM.congr fun y=>by rw [nK]⟩
 unfold bB
 simp only
 rw [wAN hi,nA,if_neg (by omega),wAe (by omega) (by omega)]
theorem aB_is {r:wAA} (G:wDH r) {last:Int} (hl:-1 <= last) (l66:List Int) (l67:RO):∃ x,Mn last (fun y=>∃ l ∈ r.Times,y ∈ l) x/\iter (aB r l66 l67 last) big (-1,0)=if x < 0 then some (.inr (l67,l66)) else iter (nB r l66 l67 x) big ([],0):=by
 have hn:=G.n;have ht:=G.t
 obtain ⟨⟨x,k⟩,⟨hk,hM⟩,hend⟩:=wDX (body:=aB r l66 l67 last) (s0:=((-1:Int),(0:Int))) (fun q s=>s.2=(q:Int)/\Mn last (fun y=>∃ l ∈ r.Times.take q,y ∈ l) s.1) r.Times.length ⟨rfl,.inl ⟨rfl,fun y hy=>by obtain ⟨l,hl,_⟩:=hy;simp at hl⟩⟩ (by omega) (fun q s hq ⟨h1,h2⟩=>by
  obtain ⟨x,k⟩:=s
  simp only at h1 h2
  subst h1
  unfold aB
  simp only
  rw [if_pos (by omega)]
  obtain ⟨x',e,hx⟩:=bB_is G hl hq h2
  refine ⟨_,e,rfl,hx.congr fun y=>?_⟩
  rw [wDC hq]
  constructor
  ·rintro (⟨l,h1,h2⟩ | h)
   ·exact ⟨l,nN _ h1,h2⟩
   ·exact ⟨_,nM _ (nG.2 rfl),h⟩
  ·rintro ⟨l,h1,h2⟩
   rcases nI.1 h1 with h1 | h1
   ·exact .inl ⟨l,h1,h2⟩
   ·rw [nG.1 h1] at h2;exact .inr h2)
 simp only at hk hM
 subst hk
 refine ⟨x,hM.congr fun y=>by rw [nK],hend _ ?_⟩
 unfold aB
 simp only
 rw [if_neg (by omega)]
 by_cases c:x < 0
 ·rw [if_pos c,if_pos c];rfl
 ·rw [if_neg c,if_neg c]
end Go.Proofs.YtbpllbhagaoocaaGreat
namespace Go.Proofs.YtbpllbhagaoocaaGreat
open Go.KL
def cvO (o:wAC):wAJ:=⟨o.Bib,o.Done,o.Time,o.By⟩
structure Gone (r:wAA) (t:Int) (τ:Nat->Option Int) (g:List Int):Prop where
 len:g.length=r.Bibs.length
 at_:∀ i,i < r.Bibs.length->gd g i=(τ i).getD (-1)
 lt:∀ i s,i < r.Bibs.length->τ i=some s->0 <= s/\s < t
def ByI (r:wAA) (τ:Nat->Option Int) (i:Nat) (t:Int) (k:Nat) (x:Int):Prop :=
 (x=0/\∀ j,j < k->¬ lap r τ i t j) \/ (∃ j,j < k/\x=gd r.Bibs j/\0 < x/\lap r τ i t j/\∀ q,q < k->lap r τ i t q->gd r.Bibs j <= gd r.Bibs q)
section
variable {r:wAA} (G:wDH r) (hb:∀ b ∈ r.Bibs,1 <= b) {t:Int} {τ:Nat->Option Int} {g:List Int} (K:Gone r t τ g)
include G K
theorem wOk {i j:Nat} (hj:j < r.Bibs.length):lap r τ i t j ↔ τ j=none/\cn (gd r.Times i) t + 2 <= cn (gd r.Times j) t/\gd (gd r.Times j) (cn (gd r.Times j) t - 1)=t:=by
 have ht:=G.t
 have hinc:=G.inc _ (wAO (l:=r.Times) (k:=j) (by omega))
 unfold lap
 constructor
 ·rintro ⟨_,h1,h2,h3⟩
  obtain ⟨c1,c2,c3⟩:=wNW hinc h2
  refine ⟨?_,h3,c3⟩
  cases c:τ j with
  | none=>rfl
  | some s =>
   have:=h1 s c
   have:=(K.lt j s hj c).2
   omega
 ·rintro ⟨h1,h2,h3⟩
  have hle:=wGA (gd r.Times j) t
  refine ⟨hj,(fun s hs=>by rw [h1] at hs;cases hs),?_,h2⟩
  have:=wAO (l:=gd r.Times j) (k:=cn (gd r.Times j) t - 1) (by omega)
  rwa [h3] at this
include hb
theorem wQA {i k:Nat} (hi:i < r.Bibs.length) (hk:k < r.Bibs.length) {x:Int} (I:ByI r τ i t k x):∃ x',byB r g t (cn (gd r.Times i) t:Int) x (k:Int)=some x'/\ByI r τ i t (k + 1) x':=by
 have hn:=G.n;have ht:=G.t;have hgl:=K.len
 have hlk:=G.len _ (wAO (l:=r.Times) (k:=k) (by omega))
 have hli:=G.len _ (wAO (l:=r.Times) (k:=i) (by omega))
 have hc1:=wGA (gd r.Times k) t
 have hc2:=wGA (gd r.Times i) t
 have hbk:=hb _ (wAO hk)
 have no:¬ lap r τ i t k->ByI r τ i t (k + 1) x:=fun h=>by
  rcases I with ⟨h1,h2⟩ | ⟨j,h1,h2,h3,h4,h5⟩
  ·exact .inl ⟨h1,fun j hj=>by
    by_cases e:j=k
    ·subst e;exact h
    ·exact h2 j (by omega)⟩
  ·exact .inr ⟨j,by omega,h2,h3,h4,fun q hq hl=>by
    by_cases e:q=k
    ·subst e;exact absurd hl h
    ·exact h5 q (by omega) hl⟩
 have yes:lap r τ i t k->(x=0 \/ gd r.Bibs k < x)->ByI r τ i t (k + 1) (gd r.Bibs k):=fun h hx=>.inr ⟨k,by omega,rfl,by omega,h,fun q hq hl=>by
  by_cases e:q=k
  ·subst e;exact nJ _
  ·rcases I with ⟨h1,h2⟩ | ⟨j,h1,h2,h3,h4,h5⟩
   ·exact absurd hl (h2 q (by omega))
   ·have:=h5 q (by omega) hl
    omega⟩
 have keep:x ≠ 0->¬ gd r.Bibs k < x->ByI r τ i t (k + 1) x:=fun h0 hx=>by
  rcases I with ⟨h1,h2⟩ | ⟨j,h1,h2,h3,h4,h5⟩
  ·exact absurd h1 h0
  ·exact .inr ⟨j,by omega,h2,h3,h4,fun q hq hl=>by
    by_cases e:q=k
    ·subst e;omega
    ·exact h5 q (by omega) hl⟩
 have hl:=wOk G K (i:=i) hk
 unfold byB
 rw [wAN (by omega),nA,wBp (by omega) (by omega),nA,nD,wLf (by omega),nA,K.at_ k hk]
 cases c:τ k with
 | some s =>
  have hs:=(K.lt k s hk c).1
  rw [nv,if_neg (show ¬ s < 0 by omega)]
  exact ⟨_,rfl,no fun h=>by have:=(hl.1 h).1;rw [c] at this;cases this⟩
 | none =>
  rw [nQ,if_pos (show (-1:Int) < 0 by decide),if_pos (show (-1:Int) < 0 by decide),wAe (x:=(cn (gd r.Times i) t:Int) + 2) (by omega) (by omega)]
  by_cases d:(cn (gd r.Times i) t:Int) + 2 <= (cn (gd r.Times k) t:Int)
  ·rw [if_pos d,wAe (by omega) (by omega),show ((cn (gd r.Times k) t:Nat):Int) - 1=((cn (gd r.Times k) t - 1:Nat):Int) by omega,wAN (by omega),nA]
   by_cases e:gd (gd r.Times k) (cn (gd r.Times k) t - 1)=t
   ·have hlap:=hl.2 ⟨c,by omega,e⟩
    rw [if_pos e]
    by_cases f:x=0
    ·rw [if_pos f,wAN hk,nA]
     exact ⟨_,rfl,yes hlap (.inl f)⟩
    ·rw [if_neg f,wAN hk,nA]
     by_cases q:gd r.Bibs k < x
     ·rw [if_pos q]
      exact ⟨_,rfl,yes hlap (.inr q)⟩
     ·rw [if_neg q]
      exact ⟨_,rfl,keep f q⟩
   ·rw [if_neg e]
    exact ⟨_,rfl,no fun h=>e (hl.1 h).2.2⟩
  ·rw [if_neg d]
   exact ⟨_,rfl,no fun h=>by have:=(hl.1 h).2.1;omega⟩
theorem yB_is {i:Nat} (hi:i < r.Bibs.length) {l:RO} (hl:l.length <= 100):∃ x,ByI r τ i t r.Bibs.length x/\iter (yB r g t l (i:Int) (cn (gd r.Times i) t:Int)) big (0,0)=some (.inl (if 0 < x then l ++ [⟨gd r.Bibs i,cn (gd r.Times i) t,t,x⟩] else l,(i:Int) + 1)):=by
 have hn:=G.n
 obtain ⟨⟨x,k⟩,⟨hk,hM⟩,hend⟩:=wDX (body:=yB r g t l (i:Int) (cn (gd r.Times i) t:Int)) (s0:=((0:Int),(0:Int))) (fun q s=>s.2=(q:Int)/\ByI r τ i t q s.1) r.Bibs.length ⟨rfl,.inl ⟨rfl,fun j hj=>by omega⟩⟩ (by omega) (fun q s hq ⟨h1,h2⟩=>by
  obtain ⟨x,k⟩:=s
  simp only at h1 h2
  subst h1
  obtain ⟨x',e,hx⟩:=wQA G hb K hi hq h2
  unfold yB
  simp only
  rw [if_pos (by omega),e,nA,wAe (by omega) (by omega)]
  exact ⟨_,rfl,rfl,hx⟩)
 simp only at hk hM
 subst hk
 refine ⟨x,hM,hend _ ?_⟩
 unfold yB
 simp only
 rw [if_neg (by omega),wAe (by omega) (by omega)]
 by_cases c:0 < x
 ·rw [if_pos c,if_pos c,wAN hi,nA,wEl (by simp;omega),nA]
 ·rw [if_neg c,if_neg c]
structure EntN (r:wAA) (t:Int) (τ:Nat->Option Int) (i:Nat) (o:wAC):Prop where
 bib:o.Bib=gd r.Bibs i
 time:o.Time=t
 none_:τ i=none
 done:o.Done=cn (gd r.Times i) t
 by_:∃ j,o.By=gd r.Bibs j/\lap r τ i t j/\∀ k,lap r τ i t k->gd r.Bibs j <= gd r.Bibs k
structure Now (r:wAA) (t:Int) (τ:Nat->Option Int) (q:Nat) (w:List wAC):Prop where
 of:∀ o ∈ w,∃ i,i < q/\EntN r t τ i o
 all:∀ i,i < q->τ i=none->(∃ j,lap r τ i t j)->∃ o ∈ w,o.Bib=gd r.Bibs i
 one:(w.map (·.Bib)).Nodup
 len:w.length <= q
theorem nB_is (l67:RO):∃ w,Now r t τ r.Bibs.length w/\iter (nB r g l67 t) big ([],0)=iter (xB r t) big (g,l67,w.map cvO):=by
 have hn:=G.n;have ht:=G.t;have hgl:=K.len
 obtain ⟨⟨l,k⟩,⟨hk,w,hl,hw⟩,hend⟩:=wDX (body:=nB r g l67 t) (s0:=(([]:RO),(0:Int))) (fun q s=>s.2=(q:Int)/\∃ w,s.1=w.map cvO/\Now r t τ q w) r.Bibs.length ⟨rfl,[],rfl,⟨fun o ho=>(by cases ho),fun i hi=>by omega,by simp,by simp⟩⟩ (by omega) (fun q s hq ⟨h1,w,h2,h3⟩=>by
  obtain ⟨l,k⟩:=s
  simp only at h1 h2
  subst h1 h2
  have hlen:=h3.len
  have skip:(¬ (τ q=none/\∃ j,lap r τ q t j))->Now r t τ (q + 1) w:=fun h=>⟨fun o ho=>by
    obtain ⟨i,h4,h5⟩:=h3.of o ho
    exact ⟨i,by omega,h5⟩,fun i hi h4 h5=>by
    by_cases e:i=q
    ·subst e;exact absurd ⟨h4,h5⟩ h
    ·exact h3.all i (by omega) h4 h5,h3.one,by omega⟩
  unfold nB
  simp only
  rw [if_pos (by omega),wBp (by omega) (by omega),nA,nD,K.at_ q hq]
  cases c:τ q with
  | some s =>
   have hs:=(K.lt q s hq c).1
   rw [nv,if_pos hs,wAe (by omega) (by omega)]
   exact ⟨_,rfl,rfl,w,rfl,skip fun h=>by rw [c] at h;cases h.1⟩
  | none =>
   have hlq:=G.len _ (wAO (l:=r.Times) (k:=q) (by omega))
   rw [nQ,if_neg (by decide),wAN (by omega),nA,wLf (by omega),nA,if_pos (by decide)]
   obtain ⟨x,hx,e⟩:=yB_is G hb K hq (l:=w.map cvO) (by simp;omega)
   rw [e]
   refine ⟨_,rfl,rfl,?_⟩
   rcases hx with ⟨rfl,h4⟩ | ⟨j,h4,h5,h6,h7,h8⟩
   ·exact ⟨w,by simp,skip fun h=>by obtain ⟨j,hj⟩:=h.2;exact h4 j hj.1 hj⟩
   ·refine ⟨w ++ [⟨gd r.Bibs q,cn (gd r.Times q) t,t,x⟩],by simp [h6,cvO],⟨fun o ho=>?_,fun i hi h9 h10=>?_,?_,by simp;omega⟩⟩
    ·rcases nI.1 ho with ho | ho
     ·obtain ⟨i,h9,h10⟩:=h3.of o ho
      exact ⟨i,by omega,h10⟩
     ·rw [nG.1 ho]
      exact ⟨q,by omega,rfl,rfl,c,rfl,j,h5,h7,fun k hk=>h8 k hk.1 hk⟩
    ·by_cases e:i=q
     ·subst e
      exact ⟨_,nM _ (nG.2 rfl),rfl⟩
     ·obtain ⟨o,ho,eo⟩:=h3.all i (by omega) h9 h10
      exact ⟨o,nN _ ho,eo⟩
    ·rw [nY,nO]
     refine ⟨h3.one,by simp,fun a ha b hb' e=>?_⟩
     obtain ⟨o,ho,eo⟩:=nZ.1 ha
     obtain ⟨i,h9,h10⟩:=h3.of o ho
     simp at hb'
     have:=wDe G (show i < r.Bibs.length by omega) hq (by rw [<- h10.bib,eo,e,hb'])
     omega)
 simp only at hk hl
 subst hk hl
 refine ⟨w,hw,hend _ ?_⟩
 unfold nB
 simp only
 rw [if_neg (by omega)]
end
end Go.Proofs.YtbpllbhagaoocaaGreat
namespace Go.Proofs.YtbpllbhagaoocaaGreat
open Go.KL
theorem wQB {l:RO} (h0:0 < l.length) (hl:l.length <= 100):∃ y:Nat,y < l.length/\wBu 1 (↑l.length:Int) (fstB l) 0=some (y:Int)/\∀ k,k < l.length->(gd l y).Bib <= (gd l k).Bib:=by
 unfold wBu
 rw [if_pos (by omega),show ((l.length:Int) - 1).toNat=l.length - 1 by omega]
 obtain ⟨s,e,y,h1,h2,h3⟩:=wFn (body:=fstB l) (fun q s=>∃ y:Nat,s=y/\y < q + 1/\∀ k,k < q + 1->(gd l y).Bib <= (gd l k).Bib) (l.length - 1) 0 (0:Int) ⟨0,rfl,by omega,fun k hk=>by
  obtain rfl:k=0:=by omega
  exact nJ _⟩ (fun q s _ hq ⟨y,h1,h2,h3⟩=>by
  subst h1
  unfold fstB
  rw [show (1 + (q:Int))=((q + 1:Nat):Int) by omega,wBp (by omega) (by omega),nA,wBp (by omega) (by omega),nA,nD,nD]
  by_cases c:(gd l (q + 1)).Bib < (gd l y).Bib
  ·rw [if_pos c]
   refine ⟨_,rfl,q + 1,rfl,by omega,fun k hk=>?_⟩
   by_cases e:k=q + 1
   ·subst e;exact nJ _
   ·have:=h3 k (by omega);omega
  ·rw [if_neg c]
   refine ⟨_,rfl,y,rfl,by omega,fun k hk=>?_⟩
   by_cases e:k=q + 1
   ·subst e;omega
   ·exact h3 k (by omega))
 subst h1
 exact ⟨y,by omega,e,fun k hk=>h3 k (by omega)⟩
theorem wLg {α:Type} {l:List α} {y:Nat} (h:y < l.length):cut l 0 (y:Int)=some (l.take y):=by
 unfold cut
 rw [if_pos (by omega)]
 simp
theorem wMm {α:Type} {l:List α} {y:Nat} (h:y < l.length):cut l ((y + 1:Nat):Int) (l.length:Int)=some (l.drop (y + 1)):=by
 unfold cut
 rw [if_pos (by omega),nD,nD,ny (by simp)]
theorem zB_is {r:wAA} (G:wDH r) {t:Int} {g:List Int} (hg:g.length=r.Bibs.length) {l:RO} {y:Nat} (hy:y < l.length) (hl:l.length <= 100) (x:RO) :
  ∃ g',iter (zB r t l (y:Int) x) big (g,0)=some (.inl (g',x,l.take y ++ l.drop (y + 1)))/\g'.length=r.Bibs.length/\∀ i,i < r.Bibs.length->gd g' i=if gd r.Bibs i=(gd l y).Bib then t else gd g i:=by
 have hn:=G.n
 obtain ⟨⟨g',k⟩,⟨hk,h1,h2,h3⟩,hend⟩:=wDX (body:=zB r t l (y:Int) x) (s0:=(g,(0:Int))) (fun q s=>s.2=(q:Int)/\s.1.length=r.Bibs.length/\(∀ i,i < q->i < r.Bibs.length->gd s.1 i=if gd r.Bibs i=(gd l y).Bib then t else gd g i)/\∀ i,q <= i->i < r.Bibs.length->gd s.1 i=gd g i) r.Bibs.length ⟨rfl,hg,fun i hi=>by omega,fun i _ _=>rfl⟩ (by omega) (fun q s hq ⟨h1,h2,h3,h4⟩=>by
  obtain ⟨g',k⟩:=s
  simp only at h1 h2 h3 h4
  subst h1
  unfold zB
  simp only
  rw [if_pos (by omega),wAN hq,nA,nD,wAe (by omega) (by omega)]
  by_cases c:gd r.Bibs q=(gd l y).Bib
  ·rw [if_pos c,wBp (by omega) (by omega),nA,nD]
   refine ⟨_,rfl,rfl,by simpa using h2,fun i hi hi2=>?_,fun i hi hi2=>?_⟩
   ·simp only
    rw [wGU (by omega) (by omega)]
    by_cases e:i=q
    ·rw [if_pos e,e,if_pos c]
    ·rw [if_neg e];exact h3 i (by omega) hi2
   ·simp only
    rw [wGU (by omega) (by omega),if_neg (by omega)]
    exact h4 i (by omega) hi2
  ·rw [if_neg c]
   refine ⟨_,rfl,rfl,h2,fun i hi hi2=>?_,fun i hi hi2=>h4 i (by omega) hi2⟩
   by_cases e:i=q
   ·subst e;rw [if_neg c];exact h4 i (by omega) hi2
   ·exact h3 i (by omega) hi2)
 simp only at hk h1 h2 h3
 subst hk
 refine ⟨g',hend _ ?_,h1,fun i hi=>h2 i hi hi⟩
 unfold zB
 simp only
 rw [if_neg (by omega),wLg hy,nA,wAe (by omega) (by omega),show (y:Int) + 1=((y + 1:Nat):Int) by omega,wMm hy,nA,wEl (by rw [ng,List.length_drop];omega),nA]
theorem wFr {w:List wAC} {y:Nat} (h:y < w.length):gd (w.map cvO) y=cvO (gd w y):=wOc _ h
theorem xB_is {r:wAA} (G:wDH r) {t:Int} {τ:Nat->Option Int} {g:List Int} (hg:g.length=r.Bibs.length) {w:List wAC} (W:Now r t τ r.Bibs.length w) {out:RO} (ho:out.length <= 100000) :
  ∃ (g':List Int) (e:List wAC),iter (xB r t) big (g,out,w.map cvO)=some (.inl (g',out ++ e.map cvO,t))/\e.Perm w/\e.Pairwise (fun a b=>a.Bib < b.Bib)/\g'.length=r.Bibs.length/\∀ i,i < r.Bibs.length->gd g' i=if ∃ o ∈ e,o.Bib=gd r.Bibs i then t else gd g i:=by
 have hn:=G.n
 have hwl:=W.len
 obtain ⟨⟨g',out',l⟩,⟨e,u,h1,h2,h3,h4,h5,h6,h7,h8⟩,hend⟩:=wDX (body:=xB r t) (s0:=(g,out,w.map cvO)) (fun q s=>∃ e u:List wAC,s.2.1=out ++ e.map cvO/\s.2.2=u.map cvO/\(e ++ u).Perm w/\e.length=q/\e.Pairwise (fun a b=>a.Bib < b.Bib)/\(∀ a ∈ e,∀ b ∈ u,a.Bib < b.Bib)/\s.1.length=r.Bibs.length/\∀ i,i < r.Bibs.length->gd s.1 i=if ∃ o ∈ e,o.Bib=gd r.Bibs i then t else gd g i) w.length ⟨[],w,by simp,rfl,List.Perm.refl _,rfl,nr,(fun a ha=>by cases ha),hg,fun i hi=>by rw [if_neg (fun h=>by obtain ⟨o,ho,_⟩:=h;cases ho)]⟩ (by omega) (fun q s hq ⟨e,u,h1,h2,h3,h4,h5,h6,h7,h8⟩=>by
  obtain ⟨g',out',l⟩:=s
  simp only at h1 h2 h7 h8
  subst h1 h2
  have hlen:=h3.length_eq
  rw [nS] at hlen
  have hul:(u.map cvO).length=u.length:=nX _
  obtain ⟨y,hy,ey,hmin⟩:=wQB (l:=u.map cvO) (by omega) (by omega)
  have hyu:y < u.length:=by omega
  unfold xB
  simp only
  rw [if_pos (by omega),ey,nA,wBp (by omega) (by omega),nA,nD,wEl (by simp;omega),nA]
  obtain ⟨g'',e1,e2,e3⟩:=zB_is G (t:=t) h7 hy (by omega) (out ++ e.map cvO ++ [gd (u.map cvO) y])
  rw [e1]
  have hu:u=u.take y ++ gd u y :: u.drop (y + 1):=by rw [<- wLW hyu,kD]
  have hp:(e ++ [gd u y] ++ (u.take y ++ u.drop (y + 1))).Perm w:=by
   refine kM ?_ h3
   rw [kL]
   refine List.Perm.append_left e ?_
   refine kM ?_ (List.Perm.of_eq hu.symm)
   show (gd u y :: (u.take y ++ u.drop (y + 1))).Perm _
   exact List.perm_middle.symm
  have nd:=(hp.map (·.Bib)).nodup_iff.2 W.one
  rw [nY,nO] at nd
  have hrest:∀ b ∈ u.take y ++ u.drop (y + 1),(gd u y).Bib < b.Bib:=fun b hb=>by
   have hbu:b ∈ u:=by
    rw [hu]
    rcases nI.1 hb with h | h
    ·exact nN _ h
    ·exact nM _ (kE _ h)
   obtain ⟨k,hk,ek⟩:=nH hbu
   have hm:=hmin k (by omega)
   rw [wFr hyu,wFr hk,wBa hk,ek] at hm
   have hne:=nd.2.2 (gd u y).Bib (by simp) b.Bib (nZ.2 ⟨b,hb,rfl⟩)
   have hm':(gd u y).Bib <= b.Bib:=hm
   omega
  refine ⟨_,rfl,e ++ [gd u y],u.take y ++ u.drop (y + 1),by simp [wFr hyu],by simp [List.map_take,List.map_drop],hp,by simp [h4],?_,?_,e2,fun i hi=>?_⟩
  ·rw [nW]
   exact ⟨h5,na _ _,fun a ha b hb=>by rw [nG.1 hb];exact h6 a ha _ (wAO hyu)⟩
  ·intro a ha b hb
   rcases nI.1 ha with ha | ha
   ·refine h6 a ha b ?_
    rw [hu]
    rcases nI.1 hb with h | h
    ·exact nN _ h
    ·exact nM _ (kE _ h)
   ·rw [nG.1 ha];exact hrest b hb
  ·rw [e3 i hi,h8 i hi,wFr hyu]
   by_cases c:gd r.Bibs i=(gd u y).Bib
   ·rw [if_pos (show gd r.Bibs i=(cvO (gd u y)).Bib from c),if_pos ⟨_,nM _ (nG.2 rfl),c.symm⟩]
   ·rw [if_neg (show ¬ gd r.Bibs i=(cvO (gd u y)).Bib from c)]
    by_cases d:∃ o ∈ e,o.Bib=gd r.Bibs i
    ·obtain ⟨o,h9,h10⟩:=d
     rw [if_pos ⟨o,h9,h10⟩,if_pos ⟨o,nN _ h9,h10⟩]
    ·rw [if_neg d,if_neg]
     rintro ⟨o,h9,h10⟩
     rcases nI.1 h9 with h9 | h9
     ·exact d ⟨o,h9,h10⟩
     ·rw [nG.1 h9] at h10
      exact c h10.symm)
 simp only at h1 h2 h7 h8
 have hlen:=h3.length_eq
 rw [nS] at hlen
 have hu:u=[]:=List.eq_nil_of_length_eq_zero (by omega)
 subst hu
 rw [List.append_nil] at h3
 subst h1 h2
 refine ⟨g',e,hend _ ?_,h3,h5,h7,h8⟩
 unfold xB
 simp only
 rw [if_neg (by simp)]
end Go.Proofs.YtbpllbhagaoocaaGreat
namespace Go.Proofs.YtbpllbhagaoocaaGreat
open Go.KL
structure QI (r:wAA) (last:Int) (g:List Int) (A:List wAC) (τ:Nat->Option Int):Prop where
 len:g.length=r.Bibs.length
 at_:∀ i,i < r.Bibs.length->gd g i=(τ i).getD (-1)
 lt:∀ i s,i < r.Bibs.length->τ i=some s->0 <= s/\s <= last/\∃ l ∈ r.Times,s ∈ l
 ex:∀ i,i < r.Bibs.length->∀ j,j < r.Bibs.length->∀ t ∈ gd r.Times j,t <= last->nbf τ i t->(τ i=some t ↔ ∃ k,lap r τ i t k)
 ents:Ents r τ A
 ord:A.Pairwise ltO
 le:∀ o ∈ A,o.Time <= last
theorem wMn {r:wAA} (G:wDH r) {last t:Int} {g g':List Int} {A w e:List wAC} {τ:Nat->Option Int} (Q:QI r last g A τ) (hlt:last < t) (ht:∃ l ∈ r.Times,t ∈ l) (hmin:∀ y,(∃ l ∈ r.Times,y ∈ l)->last < y->t <= y)
  (W:Now r t τ r.Bibs.length w) (hp:e.Perm w) (hs:e.Pairwise (fun a b=>a.Bib < b.Bib)) (hg:g'.length=r.Bibs.length) (hat:∀ i,i < r.Bibs.length->gd g' i=if ∃ o ∈ e,o.Bib=gd r.Bibs i then t else gd g i):∃ τ',QI r t g' (A ++ e) τ':=by
 have hrt:=G.t
 have t0:0 <= t:=by obtain ⟨l,hl,h⟩:=ht;exact (G.pos l hl t h).1
 have zin:∀ i,i < r.Bibs.length->((∃ o ∈ e,o.Bib=gd r.Bibs i) ↔ τ i=none/\∃ j,lap r τ i t j):=fun i hi=>by
  constructor
  ·rintro ⟨o,ho,eb⟩
   obtain ⟨i',hi',E⟩:=W.of o (hp.mem_iff.1 ho)
   have:=wDe G hi' hi (E.bib.symm.trans eb)
   subst this
   obtain ⟨j,_,h,_⟩:=E.by_
   exact ⟨E.none_,j,h⟩
  ·rintro ⟨h1,h2⟩
   obtain ⟨o,ho,eb⟩:=W.all i hi h1 h2
   exact ⟨o,hp.mem_iff.2 ho,eb⟩
 obtain ⟨z,hz⟩:∃ z:Nat->Prop,∀ i,z i ↔ i < r.Bibs.length/\∃ o ∈ e,o.Bib=gd r.Bibs i:=⟨_,fun _=>Iff.rfl⟩
 obtain ⟨τ',hτ1,hτ2⟩:∃ τ':Nat->Option Int,(∀ i,z i->τ' i=some t)/\∀ i,¬ z i->τ' i=τ i:=by
  classical
  exact ⟨fun i=>if z i then some t else τ i,fun i hi=>if_pos hi,fun i hi=>if_neg hi⟩
 have h1:∀ i,z i->τ' i=some t/\τ i=none:=fun i hi=>⟨hτ1 i hi,by
  obtain ⟨a,b⟩:=(hz i).1 hi
  exact ((zin i a).1 b).1⟩
 have h2:=hτ2
 have nbN:∀ j,j < r.Bibs.length->(nbf τ j t ↔ τ j=none):=fun j hj=>by
  constructor
  ·intro h
   cases hτ:τ j with
   | none=>rfl
   | some s =>
    have h3:=h s hτ
    have h4:=(Q.lt j s hj hτ).2.1
    omega
  ·intro h s hs;rw [h] at hs;cases hs
 refine ⟨τ',hg,fun i hi=>?_,fun i s hi h=>?_,fun i hi j hj u hu hut hnb=>?_,⟨fun o ho=>?_,fun i hi h=>?_,?_⟩,?_,fun o ho=>?_⟩
 ·rw [hat i hi]
  by_cases c:∃ o ∈ e,o.Bib=gd r.Bibs i
  ·rw [if_pos c,hτ1 i ((hz i).2 ⟨hi,c⟩)];rfl
  ·rw [if_neg c,hτ2 i (fun h=>c ((hz i).1 h).2)];exact Q.at_ i hi
 ·by_cases c:z i
  ·rw [hτ1 i c] at h
   cases h
   exact ⟨t0,nJ _,ht⟩
  ·rw [hτ2 i c] at h
   obtain ⟨a,b,d⟩:=Q.lt i s hi h
   exact ⟨a,by omega,d⟩
 ·have hin:∃ l ∈ r.Times,u ∈ l:=⟨_,wAO (by omega),hu⟩
  rcases Int.lt_or_le last u with c | c
  ·have:u=t:=by have:=hmin u hin c;omega
   subst this
   rw [wFq h1 h2 (nJ _),nbN i hi] at hnb
   simp only [wCL (r:=r) h1 h2 (nJ _)]
   constructor
   ·intro h
    by_cases d:z i
    ·obtain ⟨a,b⟩:=(hz i).1 d
     exact ((zin i a).1 b).2
    ·rw [h2 i d,hnb] at h;cases h
   ·intro h
    exact hτ1 i ((hz i).2 ⟨hi,(zin i hi).2 ⟨hnb,h⟩⟩)
  ·rw [wFq h1 h2 hut] at hnb
   have:=Q.ex i hi j hj u hu c hnb
   simp only [wCL (r:=r) h1 h2 hut]
   rw [<- this]
   by_cases d:z i
   ·rw [(h1 i d).1,(h1 i d).2]
    exact ⟨fun h=>by have:=nk h;omega,fun h=>by cases h⟩
   ·rw [h2 i d]
 ·rcases nI.1 ho with ho | ho
  ·obtain ⟨i,hi,E⟩:=Q.ents.of o ho
   have hot:o.Time <= t:=by have:=Q.le o ho;omega
   have nz:¬ z i:=fun c=>by
    have:=(h1 i c).2
    rw [E.time] at this;cases this
   obtain ⟨j,j1,j2,j3⟩:=E.by_
   exact ⟨i,hi,E.bib,by rw [h2 i nz];exact E.time,E.done,j,j1,(wCL h1 h2 hot i j).2 j2,fun q hq=>j3 q ((wCL h1 h2 hot i q).1 hq)⟩
  ·obtain ⟨i,hi,E⟩:=W.of o (hp.mem_iff.1 ho)
   have hzi:z i:=(hz i).2 ⟨hi,o,ho,E.bib⟩
   obtain ⟨j,j1,j2,j3⟩:=E.by_
   refine ⟨i,hi,E.bib,by rw [E.time];exact (h1 i hzi).1,by rw [E.time];exact E.done,j,j1,?_,fun q hq=>?_⟩
   ·rw [E.time];exact (wCL h1 h2 (nJ _) i j).2 j2
   ·rw [E.time] at hq;exact j3 q ((wCL h1 h2 (nJ _) i q).1 hq)
 ·by_cases c:z i
  ·obtain ⟨_,o,ho,eb⟩:=(hz i).1 c
   exact ⟨o,nM _ ho,eb⟩
  ·rw [h2 i c] at h
   obtain ⟨o,ho,eb⟩:=Q.ents.all i hi h
   exact ⟨o,nN _ ho,eb⟩
 ·rw [nY,nO]
  refine ⟨Q.ents.one,(hp.map _).nodup_iff.2 W.one,fun a ha b hb ee=>?_⟩
  obtain ⟨o,ho,e1⟩:=nZ.1 ha
  obtain ⟨o2,ho2,e2⟩:=nZ.1 hb
  obtain ⟨i,hi,E⟩:=Q.ents.of o ho
  obtain ⟨i',hi',E'⟩:=W.of o2 (hp.mem_iff.1 ho2)
  have:=wDe G hi hi' (by rw [<- E.bib,<- E'.bib,e1,e2,ee])
  subst this
  have:=E.time
  rw [E'.none_] at this
  cases this
 ·have tm:∀ o ∈ e,o.Time=t:=fun o ho=>by
   obtain ⟨_,_,E⟩:=W.of o (hp.mem_iff.1 ho)
   exact E.time
  rw [nW]
  refine ⟨Q.ord,hs.imp_of_mem fun {a b} ha hb h=>.inr ⟨by rw [tm a ha,tm b hb],h⟩,fun a ha b hb=>.inl ?_⟩
  have:=Q.le a ha
  rw [tm b hb]
  omega
 ·rcases nI.1 ho with ho | ho
  ·have:=Q.le o ho;omega
  ·obtain ⟨_,_,E⟩:=W.of o (hp.mem_iff.1 ho)
   rw [E.time];exact nJ _
theorem wOl {last t:Int} (h:last < t) {l:List Int} (hm:t ∈ l):(l.countP fun x=>decide (t < x)) < l.countP fun x=>decide (last < x):=by
 have mono:∀ l:List Int,(l.countP fun x=>decide (t < x)) <= l.countP fun x=>decide (last < x):=fun l=>kB fun x _ hx=>by simp at hx ⊢;omega
 obtain ⟨a,b,rfl⟩:=List.append_of_mem hm
 rw [nq,nq,nc,nc]
 have h1:=mono a;have h2:=mono b
 simp [h]
 omega
end Go.Proofs.YtbpllbhagaoocaaGreat
namespace Go.Proofs.YtbpllbhagaoocaaGreat
open Go.KL
theorem wQC {r:wAA} (hn:r.Bibs.length <= 60) {g:List Int} (hg:g.length=r.Bibs.length):∃ g',iter (gB r) big (g,0)=iter (qB r) big (g',[],-1)/\g'.length=r.Bibs.length/\∀ i,i < r.Bibs.length->gd g' i=-1:=by
 obtain ⟨⟨g',k⟩,⟨hk,h1,h2⟩,hend⟩:=wDX (body:=gB r) (s0:=(g,(0:Int))) (fun q s=>s.2=(q:Int)/\s.1.length=r.Bibs.length/\∀ i,i < q->i < r.Bibs.length->gd s.1 i=-1) r.Bibs.length ⟨rfl,hg,fun i hi=>by omega⟩ (by omega) (fun q s hq ⟨h1,h2,h3⟩=>by
  obtain ⟨g',k⟩:=s
  simp only at h1 h2 h3
  subst h1
  unfold gB
  simp only
  rw [if_pos (by omega),wBp (by omega) (by omega),nA,wAe (by omega) (by omega),nD]
  refine ⟨_,rfl,rfl,by simpa using h2,fun i hi hi2=>?_⟩
  simp only
  rw [wGU (by omega) (by omega)]
  by_cases e:i=q
  ·rw [if_pos e]
  ·rw [if_neg e];exact h3 i (by omega) hi2)
 simp only at hk h1 h2
 subst hk
 refine ⟨g',hend _ ?_,h1,fun i hi=>h2 i hi hi⟩
 unfold gB
 simp only
 rw [if_neg (by omega)]
structure RefP (r:wAA) (A:List wAC) (g:List Int) (τ:Nat->Option Int):Prop where
 found:wEQ r A τ
 len:g.length=r.Bibs.length
 at_:∀ i,i < r.Bibs.length->gd g i=(τ i).getD (-1)
 pos:∀ i s,i < r.Bibs.length->τ i=some s->0 <= s
theorem wOm {r:wAA} (G:wDH r) (hb:∀ b ∈ r.Bibs,1 <= b):∃ A g τ,wBA (cvR r)=some (A.map cvO,g)/\RefP r A g τ:=by
 have hn:=G.n;have ht:=G.t
 rw [wIa,mkz,if_pos (by omega),nA]
 obtain ⟨g0,e0,hg0,hz⟩:=wQC (r:=r) hn (g:=nT (r.Bibs.length:Int).toNat 0) (by simp)
 rw [e0]
 have hfl:=wGw G.len r.Times.length
 rw [nK] at hfl
 let mt:Int->Nat:=fun last=>r.Times.flatten.countP fun x=>decide (last < x)
 have hmt:∀ last,mt last <= r.Times.flatten.length:=fun last=>kA
 obtain ⟨⟨O,g⟩,e,A,τ,hO,hR⟩:=wMb (body:=qB r) (fun q s=>∃ A τ,s.2.1=A.map cvO/\QI r s.2.2 s.1 A τ/\-1 <= s.2.2/\q + mt s.2.2 <= r.Times.flatten.length/\A.length <= 60 * q) (fun b=>∃ A τ,b.1=A.map cvO/\RefP r A b.2 τ) r.Times.flatten.length (fun q s hq ⟨A,τ,h1,Q,h2,h3,h4⟩=>by
  obtain ⟨g,O,last⟩:=s
  simp only at h1 Q h2 h3
  subst h1
  obtain ⟨x,hM,e⟩:=aB_is G h2 g (A.map cvO)
  unfold qB
  simp only
  rw [e]
  rcases hM with ⟨rfl,hall⟩ | ⟨hlt,hin,hmin⟩
  ·right
   rw [if_pos (by decide)]
   refine ⟨_,rfl,A,τ,rfl,⟨fun i hi j hj t htj hnb=>Q.ex i hi j hj t htj (hall t ⟨_,wAO (by omega),htj⟩) hnb,fun i s hi h=>(Q.lt i s hi h).2.2,Q.ents,Q.ord⟩,Q.len,Q.at_,fun i s hi h=>(Q.lt i s hi h).1⟩
  ·left
   have x0:0 <= x:=by obtain ⟨l,hl,h⟩:=hin;exact (G.pos l hl x h).1
   have K:Gone r x τ g:=⟨Q.len,Q.at_,fun i s hi h=>⟨(Q.lt i s hi h).1,by have:=(Q.lt i s hi h).2.1;omega⟩⟩
   obtain ⟨w,W,e1⟩:=nB_is G hb K (A.map cvO)
   obtain ⟨g',E,e2,hp,hs,hg',hat⟩:=xB_is G Q.len W (out:=A.map cvO) (by simp;omega)
   obtain ⟨τ',Q'⟩:=wMn G Q hlt hin hmin W hp hs hg' hat
   rw [if_neg (by omega),e1,e2]
   have hd:mt x < mt last:=wOl hlt (by obtain ⟨l,hl,h⟩:=hin;exact List.mem_flatten.2 ⟨l,hl,h⟩)
   have hwl:=W.len;have hel:=hp.length_eq
   exact ⟨by omega,_,rfl,A ++ E,τ',by simp,Q',by simp only;omega,by simp only;omega,by simp;omega⟩) (s0:=(g0,([]:RO),(-1:Int))) ⟨[],fun _=>none,rfl,⟨hg0,fun i hi=>hz i hi,fun i s _ h=>(by cases h),fun i hi j hj t htj hlt _=>by
    have:=(G.pos _ (wAO (l:=r.Times) (k:=j) (by omega)) t htj).1
    simp only at hlt
    omega,⟨fun o ho=>(by cases ho),fun i _ h=>absurd rfl h,by simp⟩,nr,fun o ho=>(by cases ho)⟩,by simp,by have:=hmt (-1);simp only;omega,by simp⟩ (by omega)
 simp only at hO hR
 subst hO
 exact ⟨A,g,τ,e,hR⟩
end Go.Proofs.YtbpllbhagaoocaaGreat
namespace Go.Proofs.YtbpllbhagaoocaaGreat
open Go.KL
theorem wGx {l:List Int} (h:l.length <= 1000):wAa l=some l:=by
 unfold wAa
 rw [wEl (by simp only [List.length_nil];omega),nA,List.nil_append]
theorem wFs {T:List (List Int)} (h:T.length <= 1000) (hl:∀ l ∈ T,l.length <= 1000):wAX T=some T:=by
 unfold wAX
 rw [wFo (n:=T.length) (s0:=[]) (fun k=>T.take k) (by simp) (by omega) (fun i hi=>by
  rw [wAN hi,nA,wGx (hl _ (wAO hi)),nA,wEl (by simp only [ng,List.length_cons,List.length_nil];omega),nA,wDC hi]),nA,nK]
theorem wGy {l:List Int} (h:l.length <= 1000):wAb l l=some true:=by
 unfold wAb
 rw [if_pos rfl,wFp (by omega) fun k hk=>by
  rw [wAN hk,nA,nA,if_pos rfl]]
 rfl
theorem wIb {T:List (List Int)} (h:T.length <= 1000) (hl:∀ l ∈ T,l.length <= 1000):wAm T T=some true:=by
 unfold wAm
 rw [if_pos rfl,wFp (by omega) fun k hk=>by
  rw [wAN hk,nA,nA,wGy (hl _ (wAO hk)),nA,if_pos rfl]]
 rfl
theorem wMo {r:wAA} (h:code r=0):∀ b ∈ r.Bibs,1 <= b:=by
 by_cases c4:r.Bibs.all (rng 1 999)=true
 ·intro b hb
  have:=nh.1 c4 b hb
  unfold rng at this
  simp at this
  omega
 ·exfalso
  unfold code at h
  rw [if_neg c4] at h
  repeat' split at h
  all_goals cases h
def ctB (r:wAA) (g:List Int):(List Int) × Int->Option (((List Int) × Int) ⊕ ((List Int) × Int))
 | (l50,x51) =>
   if x51 < (↑l50.length:Int) then
    (idx r.Times x51).bind fun x71 =>
    (chk x51 g.length).bind fun _ =>
    (wAM x71 360000 (gd g x51.toNat)).bind fun x90 =>
    (chk x51 l50.length).bind fun _ =>
    some (.inl ((nV l50 x51.toNat x90),w64 (x51 + 1)))
   else
    esc (some (l50,0))
theorem wLh {r:wAA} (G:wDH r) {A:List wAC} {g D:List Int} {τ:Nat->Option Int} (R:RefP r A g τ) (hd:D.length=r.Bibs.length) (hD:∀ i,i < r.Bibs.length->(τ i=none/\gd D i=(gd r.Times i).length) \/ ∃ s,τ i=some s/\gd D i=cn (gd r.Times i) s) {l:List Int} (hl:l.length=r.Bibs.length):iter (ctB r g) big (l,0)=some (D,0):=by
 have hn:=G.n;have ht:=G.t;have hgl:=R.len
 obtain ⟨⟨l',k⟩,⟨hk,h1,h2⟩,hend⟩:=wDX (body:=ctB r g) (s0:=(l,(0:Int))) (fun q s=>s.2=(q:Int)/\s.1.length=r.Bibs.length/\∀ i,i < q->i < r.Bibs.length->gd s.1 i=gd D i) r.Bibs.length ⟨rfl,hl,fun i hi=>by omega⟩ (by omega) (fun q s hq ⟨h1,h2,h3⟩=>by
  obtain ⟨l',k⟩:=s
  simp only at h1 h2 h3
  subst h1
  have hlq:=G.len _ (wAO (l:=r.Times) (k:=q) (by omega))
  have hpq:=G.pos _ (wAO (l:=r.Times) (k:=q) (by omega))
  unfold ctB
  simp only
  rw [if_pos (by omega),wAN (by omega),nA,wBp (by omega) (by omega),nA,nD,wLf (by omega),nA,wBp (by omega) (by omega),nA,wAe (by omega) (by omega),R.at_ q hq]
  refine ⟨_,rfl,rfl,by simpa using h2,fun i hi hi2=>?_⟩
  simp only
  rw [wGU (by omega) (by omega)]
  by_cases e:i=q
  ·subst e
   rw [if_pos rfl]
   rcases hD i hq with ⟨c,d⟩ | ⟨s,c,d⟩
   ·rw [c,nQ,if_pos (by decide),d]
    have:cn (gd r.Times i) 360000=(gd r.Times i).length:=kC.2 fun x hx=>by
     have:=hpq x hx;simp;omega
    rw [this]
   ·have hs0:=R.pos i s hq c
    obtain ⟨m,hm,hsm⟩:=R.found.in_ i s hq c
    have hs1:=(G.pos m hm s hsm).2
    rw [c,nv,if_neg (by omega),d]
    have:(if (360000:Int) <= s then (360000:Int) else s)=s:=by split <;> omega
    rw [this]
  ·rw [if_neg e];exact h3 i (by omega) hi2)
 simp only at hk h1 h2
 subst hk
 have:l'=D:=wPv (by omega) fun i hi=>h2 i (by omega) (by omega)
 subst this
 refine hend _ ?_
 unfold ctB
 simp only
 rw [if_neg (by omega)]
theorem wOn {r:wAA} (S:wJd r):∃ (A:List wAC) (D:List Int) (c:Int),A.length <= 100000/\D.length <= 1000/\wBb r=some (A,c)/\wAp (cvR r)=some (A.map cvO,c)/\wBM r=some (D,c)/\wAl (cvR r)=some (D,c):=by
 have p:=wHi S
 have q:=wJE S
 by_cases h:code r=0
 ·have G:=wLb h
  have hn:=G.n
  obtain ⟨P,A,τ,e1,R⟩:=wPz G
  obtain ⟨A',g,τ',e2,F⟩:=wOm G (wMo h)
  have hA:=wLa G R.found F.found
  subst hA
  have hτ:∀ i,i < r.Bibs.length->τ i=τ' i:=fun i hi=>wER G R.found F.found hi
  have hD:=R.dl
  refine ⟨A,P.done,0,R.al,by omega,?_,?_,?_,?_⟩
  ·unfold wBb
   rw [p,nA,if_pos h,e1];rfl
  ·unfold wAp
   rw [q,nA,if_pos h,e2];rfl
  ·unfold wBM
   rw [p,nA,if_pos h,e1];rfl
  ·have:=wLh G F hD (fun i hi=>by rw [<- hτ i hi];exact R.done i hi) (l:=nT (r.Bibs.length:Int).toNat 0) (by simp)
   unfold wAl
   rw [q,nA,if_pos h,e2,nA]
   show (mkz 8 (↑r.Bibs.length:Int) (0:Int)).bind (fun x36=>iter (ctB r g) big (x36,0))=_
   rw [mkz,if_pos (by omega),nA,this]
 ·refine ⟨[],[],code r,by simp,by simp,?_,?_,?_,?_⟩
  ·unfold wBb
   rw [p,nA,if_neg h]
  ·unfold wAp
   rw [q,nA,if_neg h];rfl
  ·unfold wBM
   rw [p,nA,if_neg h]
  ·unfold wAl
   rw [q,nA,if_neg h]
theorem wMp (p0:wAA):wBB p0=some true:=by
 unfold wBB
 by_cases c1:64 < (p0.Bibs.length:Int)
 ·rw [if_pos c1];rfl
 rw [if_neg c1]
 by_cases c2:64 < (p0.Times.length:Int)
 ·rw [if_pos c2];rfl
 rw [if_neg c2,wDd (fun k=>decide ((gd p0.Times k).length <= 24)) true (by omega) fun i hi=>by
  rw [wAN hi,nA]
  by_cases c:(gd p0.Times i).length <= 24
  ·rw [if_neg (by omega),if_pos (by simpa using c)]
  ·rw [if_pos (by omega),if_neg (by simpa using c)];rfl,<- wCP (fun l:List Int=>decide (l.length <= 24))]
 by_cases c3:(p0.Times.all fun l=>decide (l.length <= 24))=true
 ·have S:wJd p0:=⟨by omega,by omega,fun l hl=>by simpa using nh.1 c3 l hl⟩
  have hT:∀ l ∈ p0.Times,l.length <= 1000:=fun l hl=>by have:=S.l l hl;omega
  rw [if_pos c3]
  show (wAf p0).bind _=_
  have e1:wAf p0=some p0:=by
   unfold wAf
   rw [wGx (by omega),nA,wFs (by omega) hT,nA]
  rw [e1,nA,wGx (by omega),nA,wFs (by omega) hT,nA,nA]
  simp only
  obtain ⟨A,D,c,hA,hD,b1,b2,b3,b4⟩:=wOn S
  have r1:=wJE S
  unfold cvR at r1 b2 b4
  rw [wHi S,nA,r1,nA,if_pos rfl,b1,nA]
  simp only
  rw [b2,nA]
  simp only
  rw [if_pos trivial,if_pos (by rw [nX]),wFp (by omega) fun k hk=>by
   rw [wBp (by omega) (by omega),nA,wBp (by omega) (by rw [nX];omega),nA,wFr hk];exact if_pos rfl]
  show (wBM p0).bind _=_
  rw [b3,nA]
  simp only
  rw [b4,nA]
  simp only
  rw [if_pos trivial,wGy hD,nA,if_pos rfl,if_pos trivial,wGy (by omega),nA,if_pos rfl,wIb (by omega) hT,nA,if_pos rfl]
  rfl
 ·rw [if_neg c3];rfl
end Go.Proofs.YtbpllbhagaoocaaGreat
