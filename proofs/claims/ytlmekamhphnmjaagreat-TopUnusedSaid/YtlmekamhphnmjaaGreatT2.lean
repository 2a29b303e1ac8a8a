import Derived.Test.YtlmekamhphnmjaaGreatT1
import Derived.Test.YtlmekamhphnmjaaGreatT0
import Derived.Lib.SlicesCompact
set_option linter.all false
open Option renaming bind_some->hD,getD_none->kR
open List renaming set->hM,pairwise_iff_getElem->nA,length_cons->nB,length_map->nD,getElem_of_mem->nE,length_append->nG,take_length->nH,mem_singleton->nI,getElem_map->nJ,nodup_iff_pairwise_ne->nL,range->nM,length_set->nN,pairwise_append->nO,map_append->nP,length_nil->nQ,mem_map->nR,pairwise_map->nS,mem_append->nT,append_assoc->nV,cons_append->nW,length_take->nX,filter_append->nY,getD_eq_getElem?_getD->nZ,mem_of_mem_take->nb,filter_cons_of_neg->nc,filter_cons_of_pos->ng,pairwise_cons->nh,flatMap->nj,take_append_drop->nk,countP_cons->nl,range_succ->nm,getElem?_eq_getElem->np,map_map->nq,pairwise_singleton->nt,pairwise_mergeSort->nu,drop_eq_nil_of_le->nw,mem_cons->ny,length_filter_le->kA,mem_append_left->kC,countP_eq_zero->kD,mergeSort_perm->kE,filter_sublist->kF,replicate->kG,nodup_append->kK,length_range->kL,all_eq_true->kO,not_all_eq_any_not->kS,nil_append->kT,pairwise_lt_range->kU,set_append_right->kV,any_cons->kW,all_cons->kX,map_take->kY,mem_cons_self->kb,foldl_append->kd,getElem?_set->ke
open Int renaming toNat_natCast->nK,le_refl->nU,mul_nonneg->nr,mul_le_mul->ns,tmod_eq_emod_of_nonneg->kJ,le_of_lt->kQ
open Bool renaming not_eq_true'->na,noConfusion->nz,false_eq_true->kI,eq_false_iff->kf
open Option.some renaming inj->ni
open Nat renaming lt_trichotomy->nv,lt_or_ge->kB,le_refl->kH,zero_add->kP,le_trans->kZ,add_sub_cancel->kc
open List.Pairwise renaming nil->kM
open Go.Value renaming int->ka
namespace Go.KL
open Go.RowKit Go.Lib Go.Sort
def wHo (l:List Int):Option (List Int):=if l.length < 4611686018427387904 then some (Go.Lib.compact l) else none
theorem wKU (l:List Int):(Go.Lib.compact l).length <= l.length:=by
 unfold Go.Lib.compact Go.Lib.compactUpTo
 rw [nD]
 exact kZ (kA _ _) (by simp)
theorem wKV {P:Program} {f T:Nat} {A:Option Addr} {c:Nat} {p r:List Int} {w:World} {U:PHeap}
  (H:∀ (blk off cap:Nat) (zs:List Int) (w:World),Go.Sort.Holds (ka .i64) w blk off zs.toArray->zs.length <= 9223372036854775807->zs.length <= cap->Calls P f #[.slice (some ⟨blk,off,none⟩) zs.length cap] w fun e w'=>e=.returned (.slice (some ⟨blk,off,none⟩) (Go.Lib.compact zs).length cap)/\∃ q,w'=Go.Sort.putRow (ka .i64) (Go.Sort.ahead w q) blk off (Go.Lib.compact zs ++ kG (zs.length - (Go.Lib.compact zs).length) 0).toArray)
  (HN:∀ (p:Option Addr) (cap:Nat) (w:World),Calls P f #[.slice p 0 cap] w fun e w'=>e=.returned (.slice p 0 cap)/\w'=w)
  (hS:St ⟨w,[.row A c T 1 (nj encI p)],U⟩ U [.row A c T 1 (nj encI p)] w) (hm:wHo p=some r) :
  Gv P f [.slice A p.length c] w (wBj w [.row A c T 1 (nj encI p)] U fun U_ L_ v=>∃ (A0:Option Addr) (c0:Nat),v=.slice A0 r.length c0/\L_=[.row A0 c0 T 1 (nj encI r)]):=by
 unfold wHo at hm
 split at hm
 ·rename_i hlen
  cases hm
  have hfl:∀ l:List Int,l.flatMap encI=l.map (ka .i64):=fun l=>wHz l
  have hr:=hS.at_ _ (kb ..)
  have nil:p=[]->Gv P f [.slice A p.length c] w (wBj w [.row A c T 1 (nj encI p)] U fun U_ L_ v=>∃ (A0:Option Addr) (c0:Nat),v=.slice A0 (Go.Lib.compact p).length c0/\L_=[.row A0 c0 T 1 (nj encI (Go.Lib.compact p))]):=by
   rintro rfl
   refine Calls.mono' (HN A c w) ?_
   rintro e w' ⟨rfl,rfl⟩
   exact ⟨_,rfl,U,_,hS,A,c,rfl,rfl⟩
  rcases hr with ⟨rfl,rfl,h0⟩ | ⟨b,cur,rfl,h1,h2,_⟩
  ·refine nil ?_
   rw [hfl] at h0
   simpa using h0
  ·obtain ⟨g1,g2⟩:=hS.holds (k:=0) rfl
   rw [hfl] at g1 h2
   refine Calls.mono' (H b 0 c p w (wJp _ _ _ _ _ (by simpa using g1)) (by omega) (by simpa using h2)) ?_
   rintro e w' ⟨rfl,n,rfl⟩
   have hl:=wKU p
   have s1:=hS.sorted (k:=0) (n:=n) (os:=#[]) (cs':=(Go.Lib.compact p ++ kG (p.length - (Go.Lib.compact p).length) 0).map (ka .i64)) rfl (by rw [hfl];simp;omega)
   have e0:∀ x:World,Go.Sort.grow x #[]=x:=fun x=>by simp [Go.Sort.grow]
   rw [e0,nP] at s1
   have s2:=s1.cutRow (k:=0) rfl
   refine ⟨_,rfl,U,[.row (some ⟨b,0,none⟩) c T 1 (nj encI (Go.Lib.compact p))],?_,_,c,rfl,rfl⟩
   rw [wIr,hfl (Go.Lib.compact p)]
   simpa using s2
 ·cases hm
end Go.KL
namespace Go.Proofs.YtlmekamhphnmjaaGreat
noncomputable section
open Go.KL
noncomputable section
structure wAO where
 bytes:List Int
 next:Int
 state:Int
deriving DecidableEq,Inhabited,Repr
structure wAj where
 Spares:Int
 Loops:Int
 Unused:Int
deriving DecidableEq,Inhabited,Repr
structure wAL where
 Classes:List Int
 Each:Int
 Laps:Int
 Spare:Int
 Loop:Int
 Unused:Int
deriving DecidableEq,Inhabited,Repr
structure wAQ where
 of:(wAL->Option Int)
 lo:Int
 hi:Int
structure wAR where
 Skier:Int
 Loops:List Int
 Bouts:List (List Bool)
deriving DecidableEq,Inhabited,Repr
structure wAJ where
 Bib:Int
 Classes:List Int
 Legs:List wAR
deriving DecidableEq,Inhabited,Repr
structure wAS where
 Rules:wAL
 Start:Int
 Teams:List wAJ
deriving DecidableEq,Inhabited,Repr
structure wDr where
 Race:wAS
 after:List (List Int)
deriving DecidableEq,Inhabited,Repr
structure wAT where
 Laps:Int
 Bibs:List Int
 Times:List (List Int)
deriving DecidableEq,Inhabited,Repr
structure wAK where
 Race:wAT
 done:List Int
 out:List Bool
deriving DecidableEq,Inhabited,Repr
structure wAN where
 Bib:Int
 Done:Int
 Time:Int
 By:Int
deriving DecidableEq,Inhabited,Repr
structure wAD where
 Bib:Int
 Place:Int
 Time:Int
deriving DecidableEq,Inhabited,Repr
structure wAI where
 Bib:Int
 Time:Int
deriving DecidableEq,Inhabited,Repr
structure wAC where
 Number:Int
 Kind:Int
 Minute:Int
 Bib:Int
 Much:Int
 About:Int
deriving DecidableEq,Inhabited,Repr
structure wAV where
 Deadline:Int
 Skiers:List wAI
 Decisions:List wAC
deriving DecidableEq,Inhabited,Repr
structure wAX where
 Record:wAV
 at_:List (Int × wAC)
 about:List (Int × Unit)
structure wAA where
 Bib:Int
 Place:Int
 Total:Int
deriving DecidableEq,Inhabited,Repr
def wDs (p0:List Int):Option (wAO) :=
 some (⟨p0,0,17⟩:wAO)
def wDv (p0:Int) (p1:Int):Option (Int) :=
 if p1 <= 0 then
  some 0
 else
  (rem p0 p1).bind fun x4 =>
  (rem (w64 (x4 + p1)) p1).bind fun x7 =>
  some x7
def wCb (p0:Int) (p1:Int):Option (Int) :=
 (wDv p0 p1).bind fun x1 =>
 some x1
def wAp (p0:wAO) (p1:Int):Option (Int × wAO) :=
 if p1 <= 1 then
  some (0,p0)
 else
  if (↑p0.bytes.length:Int)=0 then
   some (0,p0)
  else
   (rem p0.next (↑p0.bytes.length:Int)).bind fun x10 =>
   (idx p0.bytes x10).bind fun x13 =>
   (quo p0.next (↑p0.bytes.length:Int)).bind fun x20 =>
   (rem (wFv ((wFv ((wFv ((wFv (p0.state * 45)) + (wFv x13))) + (wFv (77 * (wFv x20))))) + 1)) 65519).bind fun x32 =>
   if (wFv x20)=0 then
    if p1 <= 256 then
     (rem (w64 (wFv x13)) p1).bind fun x42 =>
     some (x42,(⟨p0.bytes,w64 (p0.next + 1),x32⟩:wAO))
    else
     (rem (w64 (wFv ((wFv (x32 * 256)) + (wFv x13)))) p1).bind fun x46 =>
     some (x46,(⟨p0.bytes,w64 (p0.next + 1),x32⟩:wAO))
   else
    (rem (w64 (wFv ((wFv (x32 * 256)) + (wFv x13)))) p1).bind fun x50 =>
    some (x50,(⟨p0.bytes,w64 (p0.next + 1),x32⟩:wAO))
def wBN (p0:wAO) (p1:Int) (p2:Int):Option (Int × wAO) :=
 (wAp p0 (w64 ((w64 (p2 - p1)) + 1))).bind fun (x2,x3) =>
 some (w64 (p1 + x2),x3)
def wAc (p0:wAO) (p1:Int):Option (Bool × wAO) :=
 (wAp p0 p1).bind fun (x2,x3) =>
 some (decide (x2=0),x3)
def wCU (p0:Int) (p1:Int) (p2:Int):Option (Bool) :=
 if p1 <= p0 then
  some (decide (p0 <= p2))
 else
  some false
def wCt (p0:List Bool):Option (wAj × Int) :=
 (wCU (↑p0.length:Int) 5 8).bind fun x5 =>
 if x5=true then
  jn (wGR 0 (↑p0.length:Int) (fun k23 x22 =>
   (idx p0 (↑k23:Int)).bind fun x45 =>
   if x22=0 then
    esc (some ((⟨0,0,0⟩:wAj),8))
   else
    if x45=true then
     some (.inl (w64 (x22 - 1)))
    else
     some (.inl x22)) 5) fun y72 =>
  if 0 < y72 then
   some ((⟨w64 ((↑p0.length:Int) - 5),y72,w64 (8 - (↑p0.length:Int))⟩:wAj),0)
  else
   some ((⟨w64 ((↑p0.length:Int) - 5),y72,0⟩:wAj),0)
 else
  some ((⟨0,0,0⟩:wAj),2)
def wCV (p0:Int) (p1:(Int->Option Bool)):Option (Bool) :=
 (p1 p0).bind fun x1 =>
 some (!x1)
def wCE (p0:List Int) (p1:(Int->Option Bool)):Option (Int) :=
 jn (wGR 0 (↑p0.length:Int) (fun k2 _ =>
  (idx p0 (↑k2:Int)).bind fun x22 =>
  (p1 x22).bind fun x30 =>
  if x30=true then
   esc (some (↑k2:Int))
  else
   some (.inl ())) ()) fun _ =>
 some (-1)
def wBm (p0:List Int) (p1:(Int->Option Bool)):Option (Bool) :=
 (wCE p0 p1).bind fun x1 =>
 some (decide (0 <= x1))
def wCq (p0:List Int) (p1:(Int->Option Bool)):Option (Bool) :=
 (wBm p0 (fun x=>wCV x p1)).bind fun x13 =>
 some (!x13)
def wBc (p0:Int):Option (Bool) :=
 (wCU p0 0 3).bind fun x1 =>
 some x1
def wCf (p0:List Int):Option (Bool) :=
 (wCq p0 wBc).bind fun x2 =>
 some x2
def wBy (p0:wAL):Option (Int) :=
 some p0.Each
def wBz (p0:wAL):Option (Int) :=
 some p0.Laps
def wCA (p0:wAL):Option (Int) :=
 some p0.Spare
def wCB (p0:wAL):Option (Int) :=
 some p0.Loop
def wCC (p0:wAL):Option (Int) :=
 some p0.Unused
def wEh :Option ((List wAQ)) :=
 some [(⟨wBy,1,4⟩:wAQ),(⟨wBz,1,5⟩:wAQ),(⟨wCA,0,600⟩:wAQ),(⟨wCB,0,600⟩:wAQ),(⟨wCC,0,6000⟩:wAQ)]
def wBx (p0:wAQ) (p1:wAL):Option (Bool) :=
 (p0.of p1).bind fun x7 =>
 (wCU x7 p0.lo p0.hi).bind fun x17 =>
 some x17
def wBK (p0:wAQ) (p1:(wAQ->Option Bool)):Option (Bool) :=
 (p1 p0).bind fun x5 =>
 some (!x5)
def wAv (p0:List wAQ) (p1:(wAQ->Option Bool)):Option (Int) :=
 jn (wGR 0 (↑p0.length:Int) (fun k2 _ =>
  (idx p0 (↑k2:Int)).bind fun x22 =>
  (p1 x22).bind fun x34 =>
  if x34=true then
   esc (some (↑k2:Int))
  else
   some (.inl ())) ()) fun _ =>
 some (-1)
def wAn (p0:List wAQ) (p1:(wAQ->Option Bool)):Option (Bool) :=
 (wAv p0 p1).bind fun x1 =>
 some (decide (0 <= x1))
def wBr (p0:List wAQ) (p1:(wAQ->Option Bool)):Option (Bool) :=
 (wAn p0 (fun x=>wBK x p1)).bind fun x13 =>
 some (!x13)
def wCu (p0:wAL):Option (Int) :=
 (wCU (↑p0.Classes.length:Int) 1 4).bind fun x10 =>
 if x10=true then
  (wCf p0.Classes).bind fun x25 =>
  if x25=true then
   (wEh).bind fun x37 =>
   (wBr x37 (fun x=>wBx x p0)).bind fun x64 =>
   if x64=true then
    some 0
   else
    some 3
  else
   some 3
 else
  some 2
def wBn (p0:wAL) (p1:wAJ):Option (Bool) :=
 (wCU (↑p1.Classes.length:Int) 1 8).bind fun x9 =>
 if x9=true then
  if (↑p0.Classes.length:Int) < (↑p1.Legs.length:Int) then
   some false
  else
   jn (wGR 0 (↑p1.Legs.length:Int) (fun k25 _ =>
    (idx p1.Legs (↑k25:Int)).bind fun x46 =>
    if p0.Laps < (↑x46.Loops.length:Int) then
     esc (some false)
    else
     if (↑k25:Int) < (w64 ((↑p1.Legs.length:Int) - 1)) then
      if (↑x46.Loops.length:Int) < p0.Laps then
       esc (some false)
      else
       if (↑x46.Bouts.length:Int)=(max 0 (w64 ((↑x46.Loops.length:Int) - 1))) then
        some (.inl ())
       else
        esc (some false)
     else
      if (↑x46.Bouts.length:Int)=(max 0 (w64 ((↑x46.Loops.length:Int) - 1))) then
       some (.inl ())
      else
       esc (some false)) ()) fun _ =>
   some true
 else
  some false
def wBO (p0:wAJ) (p1:(wAJ->Option Bool)):Option (Bool) :=
 (p1 p0).bind fun x5 =>
 some (!x5)
def wAz (p0:List wAJ) (p1:(wAJ->Option Bool)):Option (Int) :=
 jn (wGR 0 (↑p0.length:Int) (fun k2 _ =>
  (idx p0 (↑k2:Int)).bind fun x22 =>
  (p1 x22).bind fun x38 =>
  if x38=true then
   esc (some (↑k2:Int))
  else
   some (.inl ())) ()) fun _ =>
 some (-1)
def wAt (p0:List wAJ) (p1:(wAJ->Option Bool)):Option (Bool) :=
 (wAz p0 p1).bind fun x1 =>
 some (decide (0 <= x1))
def wBd (p0:List wAJ) (p1:(wAJ->Option Bool)):Option (Bool) :=
 (wAt p0 (fun x=>wBO x p1)).bind fun x13 =>
 some (!x13)
def wDJ (p0:wAJ):Option (Bool) :=
 (wCU p0.Bib 1 999).bind fun x5 =>
 if x5=true then
  (wCf p0.Classes).bind fun x18 =>
  some x18
 else
  some false
def wBo {S E:Type} (f:S->(wAJ × wAR)->Option (S ⊕ E)) (s0:S) (p1:wAS):Option (S ⊕ E) :=
 jn (wGR 0 (↑p1.Teams.length:Int) (fun k12 s10 =>
  (idx p1.Teams (↑k12:Int)).bind fun x33 =>
  jn (wGR 0 (↑x33.Legs.length:Int) (fun k66 s64 =>
   (idx x33.Legs (↑k66:Int)).bind fun x91 =>
   (f s64 (x33,x91)).bind fun yr115 =>
   match yr115 with
   | .inl s125 =>
    some (.inl s125)
   | .inr s125 =>
    esc (esc (some (.inr s125)))) s10) fun y142 =>
  some (.inl y142)) s0) fun y163 =>
 some (.inl y163)
def wCc (p0:wAS):Option (Unit) :=
 some ()
def wCg (p0:Int):Option (Bool) :=
 (wCU p0 1 9000).bind fun x1 =>
 some x1
def wEQ (p0:wAS):Option (Int) :=
 (wCu p0.Rules).bind fun x9 =>
 if x9=0 then
  (wCU (↑p0.Teams.length:Int) 1 12).bind fun x21 =>
  if x21=true then
   (wBd p0.Teams (fun x=>wBn p0.Rules x)).bind fun x38 =>
   if x38=true then
    (wCU p0.Start 0 36000).bind fun x50 =>
    if x50=true then
     (wBd p0.Teams wDJ).bind fun x65 =>
     if x65=true then
      (wCc p0).bind fun _ =>
      (wBo (S:=Unit) (E:=Int) (fun _ x146 =>
       (wCq x146.2.Loops wCg).bind fun x191 =>
       if x191=true then
        some (.inl ())
       else
        some (.inr 3)) () p0).bind fun rr138 =>
      match rr138 with
      | .inl _ =>
       (wCc p0).bind fun _ =>
       (wBo (S:=Unit) (E:=Int) (fun _ x290 =>
        (wCU x290.2.Skier 0 (w64 ((↑x290.1.Classes.length:Int) - 1))).bind fun x341 =>
        if x341=true then
         some (.inl ())
        else
         some (.inr 1)) () p0).bind fun rr282 =>
       match rr282 with
       | .inl _ =>
        (wCc p0).bind fun _ =>
        (wBo (S:=Unit) (E:=Int) (fun _ x492 =>
         jn (wGR 0 (↑x492.2.Bouts.length:Int) (fun k537 _ =>
          (idx x492.2.Bouts (↑k537:Int)).bind fun x558 =>
          (wCt x558).bind fun (x571,x572) =>
          if x572=0 then
           some (.inl ())
          else
           esc (some (.inr x572))) ()) fun _ =>
         some (.inl ())) () p0).bind fun rr484 =>
        match rr484 with
        | .inl _ =>
         (wCM 0 (↑p0.Teams.length:Int) (fun k640 l637 =>
          (idx p0.Teams (↑k640:Int)).bind fun x664 =>
          some (wFX l637 x664.Bib true)) ([]:List (Int × Bool))).bind fun y645 =>
         if (↑(y645.length):Int) < (↑p0.Teams.length:Int) then
          some 5
         else
          some 0
        | .inr y618 =>
         some y618
       | .inr y364 =>
        some y364
      | .inr y214 =>
       some y214
     else
      some 3
    else
     some 3
   else
    some 2
  else
   some 2
 else
  some x9
def wDX (p0:wAS):Option ((Option wDr) × Int) :=
 (wEQ p0).bind fun x5 =>
 if x5=0 then
  (wCM 0 (↑p0.Teams.length:Int) (fun k42 l37 =>
   (idx p0.Teams (↑k42:Int)).bind fun x66 =>
   (wCM 0 (↑x66.Legs.length:Int) (fun k111 (x106,l107) =>
    (idx x66.Legs (↑k111:Int)).bind fun x140 =>
    (wCM 0 (↑x140.Loops.length:Int) (fun k181 (x177,l178) =>
     (idx x140.Loops (↑k181:Int)).bind fun x211 =>
     if 0 < (↑k181:Int) then
      (idx x140.Bouts (w64 ((↑k181:Int) - 1))).bind fun x221 =>
      (wCt x221).bind fun (x234,x235) =>
      (app 8 l178 [w64 ((w64 (x177 + x211)) + (w64 ((w64 (x234.Spares * p0.Rules.Spare)) + (w64 (x234.Loops * p0.Rules.Loop)))))]).bind fun x274 =>
      some (w64 ((w64 (x177 + x211)) + (w64 ((w64 (x234.Spares * p0.Rules.Spare)) + (w64 (x234.Loops * p0.Rules.Loop))))),x274)
     else
      (app 8 l178 [w64 (x177 + x211)]).bind fun x292 =>
      some (w64 (x177 + x211),x292)) (x106,l107)).bind fun (y186,y187) =>
    some (y186,y187)) (p0.Start,[])).bind fun (y116,y117) =>
   (app 24 l37 [y117]).bind fun x366 =>
   some x366) []).bind fun y47 =>
  some ((some (⟨p0,y47⟩:wDr)),0)
 else
  some (none,x5)
def wCv (p0:wDr) (p1:Int):Option ((List Int)) :=
 (idx p0.after p1).bind fun x2 =>
 (wCM 0 (↑x2.length:Int) (fun k31 l27 =>
  (idx x2 (↑k31:Int)).bind fun x55 =>
  (rem (↑(k31 + 1):Int) p0.Race.Rules.Laps).bind fun x63 =>
  if x63=0 then
   (app 8 l27 [x55]).bind fun x73 =>
   some x73
  else
   some l27) []).bind fun y36 =>
 some y36
def wDw (p0:wAS):Option ((List (List Int)) × Int) :=
 (wDX p0).bind fun (x5,x6) =>
 match x5 with
 | none =>
  if x6=0 then
   (wCM 0 (↑p0.Teams.length:Int) (fun k29 _ =>
    none) ()).bind fun _ =>
   some ([],0)
  else
   some ([],x6)
 | some x24 =>
  if x6=0 then
   (wCM 0 (↑p0.Teams.length:Int) (fun k100 l95 =>
    (wCv x24 (↑k100:Int)).bind fun x129 =>
    (app 24 l95 [x129]).bind fun x153 =>
    some x153) []).bind fun y105 =>
   some (y105,0)
  else
   some ([],x6)
def wCk (p0:List Int):Option ((List Int)) :=
 (app 8 ([]:List Int) p0).bind fun x11 =>
 some x11
def wBs (p0:wDr):Option (wAT) :=
 (wCM 0 (↑p0.Race.Teams.length:Int) (fun k51 (l42,l46) =>
  (idx p0.Race.Teams (↑k51:Int)).bind fun x80 =>
  (app 8 l42 [x80.Bib]).bind fun x108 =>
  (idx p0.after (↑k51:Int)).bind fun x121 =>
  (wCk x121).bind fun x134 =>
  (app 24 l46 [x134]).bind fun x158 =>
  some (x108,x158)) ([],[])).bind fun (y56,y57) =>
 some (⟨w64 ((↑p0.Race.Rules.Classes.length:Int) * p0.Race.Rules.Laps),y56,y57⟩:wAT)
def wEd (p0:Int) (p1:Int) (p2:Int):Option (Bool) :=
 if p1 <= p0 then
  some (decide (p0 <= p2))
 else
  some false
def wCG (p0:List Int) (p1:wAT):Option (Bool) :=
 some (decide ((↑p0.length:Int) <= p1.Laps))
def wDK (p0:List (List Int)) (p1:((List Int)->Option Bool)):Option (Bool) :=
 jn (wGR 0 (↑p0.length:Int) (fun k2 _ =>
  (idx p0 (↑k2:Int)).bind fun x22 =>
  (p1 x22).bind fun x35 =>
  if x35=true then
   some (.inl ())
  else
   esc (some false)) ()) fun _ =>
 some true
def wCH (p0:List Int) (p1:(Int->Option Bool)):Option (Bool) :=
 jn (wGR 0 (↑p0.length:Int) (fun k2 _ =>
  (idx p0 (↑k2:Int)).bind fun x22 =>
  (p1 x22).bind fun x30 =>
  if x30=true then
   some (.inl ())
  else
   esc (some false)) ()) fun _ =>
 some true
def wCI (p0:Int):Option (Bool) :=
 (wEd p0 1 999).bind fun x1 =>
 some x1
def wBt (p0:Int):Option (Bool) :=
 (wEd p0 0 360000).bind fun x1 =>
 some x1
def wCJ (p0:List Int):Option (Bool) :=
 (wCH p0 wBt).bind fun x2 =>
 some x2
def wER (p0:List Int):Option (Bool) :=
 jn (wGR 0 (↑p0.length:Int) (fun k20 l17 =>
  (idx p0 (↑k20:Int)).bind fun x41 =>
  if (wDn l17 x41 false)=true then
   esc (some true)
  else
   some (.inl (wFX l17 x41 true))) ([]:List (Int × Bool))) fun y68 =>
 some false
def wCd (p0:wAT):Option (Int) :=
 (wEd p0.Laps 1 20).bind fun x10 =>
 if x10=true then
  if 60 < (↑p0.Bibs.length:Int) then
   some 2
  else
   if (↑p0.Times.length:Int)=(↑p0.Bibs.length:Int) then
    (wDK p0.Times (fun x=>wCG x p0)).bind fun x33 =>
    if x33=true then
     (wCH p0.Bibs wCI).bind fun x48 =>
     if x48=true then
      (wDK p0.Times wCJ).bind fun x64 =>
      if x64=true then
       (wER p0.Bibs).bind fun x79 =>
       if x79=true then
        some 5
       else
        jn (wGR 0 (↑p0.Times.length:Int) (fun k97 _ =>
         (idx p0.Times (↑k97:Int)).bind fun x116 =>
         jn (wGR 1 (↑x116.length:Int) (fun k132 _ =>
          (idx x116 (1 + ↑k132:Int)).bind fun x155 =>
          (idx x116 (w64 ((1 + ↑k132:Int) - 1))).bind fun x163 =>
          if x155 <= x163 then
           esc (esc (some 4))
          else
           some (.inl ())) ()) fun _ =>
         some (.inl ())) ()) fun _ =>
        some 0
      else
       some 3
     else
      some 3
    else
     some 2
   else
    some 2
 else
  some 2
def wCN (p0:List Int) (p1:Int):Option ((List Int)) :=
 if p1 < 0 then
  none
 else
  if 0 < (w64 (p1 - 0)) then
   (appZ 8 (w64 (p1 - 0)) (0:Int)).bind fun x6 =>
   some ([]:List Int)
  else
   some []
def wBv (p0:List (List Int)):Option ((List Int)) :=
 (wCM 0 (↑p0.length:Int) (fun k7 x6 =>
  (idx p0 (↑k7:Int)).bind fun x29 =>
  if (w64 (x6 + (↑x29.length:Int))) < 0 then
   none
  else
   some (w64 (x6 + (↑x29.length:Int)))) 0).bind fun y12 =>
 (wCN [] y12).bind fun x59 =>
 (wCM 0 (↑p0.length:Int) (fun k86 l83 =>
  (idx p0 (↑k86:Int)).bind fun x107 =>
  (app 8 l83 x107).bind fun x122 =>
  some x122) x59).bind fun y91 =>
 some y91
def wCw (p0:List Int):Option (List Int):=wNT p0
def wCW (p0:List Int):Option (List Int):=wHo p0
def wBP {S E:Type} (f:S->Int->Option (S ⊕ E)) (s0:S) (p1:List Int):Option (S ⊕ E) :=
 jn (wGR 0 (↑p1.length:Int) (fun k12 s10 =>
  (idx p1 (↑k12:Int)).bind fun x33 =>
  (f s10 x33).bind fun yr41 =>
  match yr41 with
  | .inl s51 =>
   some (.inl s51)
  | .inr s51 =>
   esc (some (.inr s51))) s0) fun y65 =>
 some (.inl y65)
def wCa (p0:List Int):Option (Unit) :=
 some ()
def wCX (p0:wAT):Option ((List Int)) :=
 (wBv p0.Times).bind fun x5 =>
 (wCw x5).bind fun x18 =>
 (wCW x18).bind fun x29 =>
 (wCa x29).bind fun _ =>
 some x29
def wBZ (p0:wAK) (p1:Int) (p2:Int) (p3:Int):Option (Int) :=
 (wCM 0 (↑p0.done.length:Int) (fun k7 x6 =>
  ((idx p0.done (↑k7:Int)).bind fun x35 =>
  (idx p0.out (↑k7:Int)).bind fun x46 =>
  if x46=true then
   some x6
  else
   if (w64 (p2 + 2)) <= x35 then
    (idx p0.Race.Times (↑k7:Int)).bind fun x60 =>
    (idx x60 (w64 (x35 - 1))).bind fun x73 =>
    if x73=p3 then
     if x6 < 0 then
      some (↑k7:Int)
     else
      (idx p0.Race.Bibs (↑k7:Int)).bind fun x96 =>
      (idx p0.Race.Bibs x6).bind fun x104 =>
      if x96 < x104 then
       some (↑k7:Int)
      else
       some x6
    else
     some x6
   else
    some x6).bind fun x31 =>
  some x31) (-1)).bind fun y12 =>
 some y12
def wBa (p0:wAK) (p1:Int):Option ((List Int) × wAK) :=
 (wCM 0 (↑p0.Race.Times.length:Int) (fun k10 l9 =>
  (idx p0.Race.Times (↑k10:Int)).bind fun x33 =>
  (chk (↑k10:Int) l9.length).bind fun _ =>
  (chk (↑k10:Int) p0.out.length).bind fun _ =>
  if (gd p0.out k10)=true then
   some l9
  else
   if (gd l9 k10) < (↑x33.length:Int) then
    (idx x33 (gd l9 k10)).bind fun x62 =>
    if x62=p1 then
     some (hM l9 k10 (w64 ((gd l9 k10) + 1)))
    else
     some l9
   else
    some l9) p0.done).bind fun y15 =>
 (wCM 0 (↑y15.length:Int) (fun k121 l117 =>
  (chk (↑k121:Int) y15.length).bind fun _ =>
  (chk (↑k121:Int) p0.out.length).bind fun _ =>
  if (gd p0.out k121)=true then
   some l117
  else
   (wBZ (⟨p0.Race,y15,p0.out⟩:wAK) (↑k121:Int) (gd y15 k121) p1).bind fun x193 =>
   if 0 <= x193 then
    (app 8 l117 [(↑k121:Int)]).bind fun x222 =>
    some x222
   else
    some l117) []).bind fun y126 =>
 some (y126,(⟨p0.Race,y15,p0.out⟩:wAK))
def wBF (p0:List wAN) (p1:((wAN × wAN)->Option Int)):Option (List wAN):=wIg p1 p0
def wCh (p0:Int):Option (Bool) :=
 some (decide (¬ (p0=p0)))
def wAh (p0:Int) (p1:Int):Option (Int) :=
 (wCh p0).bind fun x1 =>
 (wCh p1).bind fun x11 =>
 if x1=true then
  if x11=true then
   some 0
  else
   some (-1)
 else
  if x11=true then
   some 1
  else
   if p0 < p1 then
    some (-1)
   else
    if p1 < p0 then
     some 1
    else
     some 0
def wCx (p0:List Int):Option (Int) :=
 jn (wGR 0 (↑p0.length:Int) (fun k2 _ =>
  (idx p0 (↑k2:Int)).bind fun x22 =>
  if x22=0 then
   some (.inl ())
  else
   esc (some x22)) ()) fun _ =>
 some 0
def wBV (p0:wAN) (p1:wAN):Option (Int) :=
 (wAh p0.Time p1.Time).bind fun x11 =>
 (wAh p0.Bib p1.Bib).bind fun x21 =>
 (wCx [x11,x21]).bind fun x41 =>
 some x41
def wDB (p0:wAT):Option (wAK × (List wAN)) :=
 ((mkz 8 (↑p0.Bibs.length:Int) (0:Int)).bind fun x18 =>
 (mkz 1 (↑p0.Bibs.length:Int) false).bind fun x26 =>
 some (x18,x26)).bind fun (l9,l12) =>
 (wCX p0).bind fun x523 =>
 (wBP (S:=(List wAN) × Int × (List Int) × (List (List Int)) × (List Int) × (List Bool)) (E:=Empty) (fun (l1084,x1088,l1089,l1092,l1095,l1098) x1127 =>
  (wBa (⟨(⟨x1088,l1089,l1092⟩:wAT),l1095,l1098⟩:wAK) x1127).bind fun (x1153,x1154) =>
  (wCM 0 (↑x1153.length:Int) (fun k1194 l1191 =>
   (chk (↑k1194:Int) x1153.length).bind fun _ =>
   (idx x1154.Race.Bibs (gd x1153 k1194)).bind fun x1225 =>
   (chk (gd x1153 k1194) x1154.done.length).bind fun _ =>
   (wBZ x1154 (gd x1153 k1194) (gd x1154.done (gd x1153 k1194).toNat) x1127).bind fun x1267 =>
   (idx x1154.Race.Bibs x1267).bind fun x1289 =>
   (app 32 l1191 [(⟨x1225,(gd x1154.done (gd x1153 k1194).toNat),x1127,x1289⟩:wAN)]).bind fun x1302 =>
   some x1302) l1084).bind fun y1199 =>
  (wCM 0 (↑x1153.length:Int) (fun k1341 l1340 =>
   (chk (↑k1341:Int) x1153.length).bind fun _ =>
   (chk (gd x1153 k1341) l1340.length).bind fun _ =>
   some (hM l1340 (gd x1153 k1341).toNat true)) x1154.out).bind fun y1346 =>
  some (.inl (y1199,x1154.Race.Laps,x1154.Race.Bibs,x1154.Race.Times,x1154.done,y1346))) ([],p0.Laps,p0.Bibs,p0.Times,l9,l12) x523).bind fun rr1121 =>
 match rr1121 with
 | .inl (y1419,y1420,y1421,y1422,y1423,y1424) =>
  (wBF y1419 (fun x=>wBV x.1 x.2)).bind fun x1441 =>
  some ((⟨(⟨y1420,y1421,y1422⟩:wAT),y1423,y1424⟩:wAK),x1441)
 | .inr e1435 =>
  e1435.elim
def wDC (p0:wAT):Option ((List wAN) × Int) :=
 (wCd p0).bind fun x5 =>
 if x5=0 then
  (wDB p0).bind fun (x19,x20) =>
  some (x20,0)
 else
  some ([],x5)
def wEe (p0:wAS):Option ((List wAN) × Int) :=
 (wDX p0).bind fun (x5,x6) =>
 match x5 with
 | none =>
  if x6=0 then
   none
  else
   some ([],x6)
 | some x24 =>
  if x6=0 then
   (wBs x24).bind fun x46 =>
   (wDC x46).bind fun (x76,x77) =>
   some (x76,x77)
  else
   some ([],x6)
def wDL (p0:wAT):Option ((List Int) × Int) :=
 (wCd p0).bind fun x5 =>
 if x5=0 then
  (wDB p0).bind fun (x19,x20) =>
  some (x19.done,0)
 else
  some ([],x5)
def wCK (p0:wAJ):Option (Int) :=
 (wCM 0 (↑p0.Legs.length:Int) (fun k18 x17 =>
  (idx p0.Legs (↑k18:Int)).bind fun x40 =>
  (wCM 0 (↑x40.Bouts.length:Int) (fun k69 x68 =>
   (idx x40.Bouts (↑k69:Int)).bind fun x94 =>
   (wCt x94).bind fun (x107,x108) =>
   if x107=(⟨0,0,0⟩:wAj) then
    some x68
   else
    some (w64 (x68 + x107.Unused))) x17).bind fun y74 =>
  some y74) 0).bind fun y23 =>
 some y23
def wAd (p0:List wAD) (p1:((wAD × wAD)->Option Int)):Option (List wAD):=wIg p1 p0
def wBe (p0:wAD) (p1:wAD):Option (Int) :=
 (wAh p0.Time p1.Time).bind fun x11 =>
 (wAh p0.Bib p1.Bib).bind fun x21 =>
 (wCx [x11,x21]).bind fun x41 =>
 some x41
def wBf (p0:wAD) (p1:wAD) (p2:List (Int × Int)):Option (Int) :=
 (wAh (wDn p2 p1.Bib 0) (wDn p2 p0.Bib 0)).bind fun x11 =>
 (wAh p0.Bib p1.Bib).bind fun x21 =>
 (wCx [x11,x21]).bind fun x41 =>
 some x41
def wCi (p0:wAS):Option ((List wAD) × Int) :=
 (wDX p0).bind fun (x5,x6) =>
 match x5 with
 | none =>
  if x6=0 then
   none
  else
   some ([],x6)
 | some x24 =>
  if x6=0 then
   (wBs x24).bind fun x46 =>
   (wDC x46).bind fun (x83,x84) =>
   (wDL x46).bind fun (x99,x100) =>
   (wCM 0 (↑x83.length:Int) (fun k144 l141 =>
    (chk (↑k144:Int) x83.length).bind fun _ =>
    some (wFX l141 ((gd x83 k144).Bib) true)) ([]:List (Int × Bool))).bind fun y149 =>
   (wCM 0 (↑p0.Teams.length:Int) (fun k258 (l247,l250,l254) =>
    (idx p0.Teams (↑k258:Int)).bind fun x293 =>
    (chk (↑k258:Int) x99.length).bind fun _ =>
    if (wDn y149 x293.Bib false)=true then
     (app 24 l254 [(⟨x293.Bib,0,0⟩:wAD)]).bind fun x346 =>
     some ((wFX l247 x293.Bib (gd x99 k258)),l250,x346)
    else
     (idx x24.after (↑k258:Int)).bind fun x364 =>
     if (↑x364.length:Int) < x46.Laps then
      (app 24 l254 [(⟨x293.Bib,0,0⟩:wAD)]).bind fun x390 =>
      some ((wFX l247 x293.Bib (gd x99 k258)),l250,x390)
     else
      (idx x364 (w64 (x46.Laps - 1))).bind fun x434 =>
      (wCK x293).bind fun x441 =>
      (app 24 l250 [(⟨x293.Bib,0,w64 (x434 + (w64 (x441 * p0.Rules.Unused)))⟩:wAD)]).bind fun x456 =>
      some ((wFX l247 x293.Bib (gd x99 k258)),x456,l254)) (([]:List (Int × Int)),[],[])).bind fun (y263,y264,y265) =>
   (wAd y264 (fun x=>wBe x.1 x.2)).bind fun x508 =>
   (wAd y265 (fun x=>wBf x.1 x.2 y263)).bind fun x532 =>
   (wCM 0 (↑x508.length:Int) (fun k550 l549 =>
    (chk (↑k550:Int) l549.length).bind fun _ =>
    if 0 < (↑k550:Int) then
     (chk (↑k550:Int) (hM l549 k550 (⟨(gd l549 k550).Bib,(↑(k550 + 1):Int),(gd l549 k550).Time⟩:wAD)).length).bind fun _ =>
     (chk (w64 ((↑k550:Int) - 1)) (hM l549 k550 (⟨(gd l549 k550).Bib,(↑(k550 + 1):Int),(gd l549 k550).Time⟩:wAD)).length).bind fun _ =>
     if ((gd (hM l549 k550 (⟨(gd l549 k550).Bib,(↑(k550 + 1):Int),(gd l549 k550).Time⟩:wAD)) k550).Time)=((gd (hM l549 k550 (⟨(gd l549 k550).Bib,(↑(k550 + 1):Int),(gd l549 k550).Time⟩:wAD)) (w64 ((↑k550:Int) - 1)).toNat).Time) then
      some (hM (hM l549 k550 (⟨(gd l549 k550).Bib,(↑(k550 + 1):Int),(gd l549 k550).Time⟩:wAD)) k550 (⟨(gd (hM l549 k550 (⟨(gd l549 k550).Bib,(↑(k550 + 1):Int),(gd l549 k550).Time⟩:wAD)) k550).Bib,(gd (hM l549 k550 (⟨(gd l549 k550).Bib,(↑(k550 + 1):Int),(gd l549 k550).Time⟩:wAD)) (w64 ((↑k550:Int) - 1)).toNat).Place,(gd (hM l549 k550 (⟨(gd l549 k550).Bib,(↑(k550 + 1):Int),(gd l549 k550).Time⟩:wAD)) k550).Time⟩:wAD))
     else
      some (hM l549 k550 (⟨(gd l549 k550).Bib,(↑(k550 + 1):Int),(gd l549 k550).Time⟩:wAD))
    else
     some (hM l549 k550 (⟨(gd l549 k550).Bib,(↑(k550 + 1):Int),(gd l549 k550).Time⟩:wAD))) x508).bind fun y555 =>
   (app 24 y555 x532).bind fun x615 =>
   some (x615,0)
  else
   some ([],x6)
def wBC (p0:Int) (p1:Int) (p2:Int):Option (Bool) :=
 if p1 <= p0 then
  some (decide (p0 <= p2))
 else
  some false
def wBL (p0:wAI) (p1:(wAI->Option Bool)):Option (Bool) :=
 (p1 p0).bind fun x5 =>
 some (!x5)
def wAm (p0:List wAI) (p1:(wAI->Option Bool)):Option (Int) :=
 jn (wGR 0 (↑p0.length:Int) (fun k2 _ =>
  (idx p0 (↑k2:Int)).bind fun x22 =>
  (p1 x22).bind fun x30 =>
  if x30=true then
   esc (some (↑k2:Int))
  else
   some (.inl ())) ()) fun _ =>
 some (-1)
def wAu (p0:List wAI) (p1:(wAI->Option Bool)):Option (Bool) :=
 (wAm p0 p1).bind fun x1 =>
 some (decide (0 <= x1))
def wCO (p0:List wAI) (p1:(wAI->Option Bool)):Option (Bool) :=
 (wAu p0 (fun x=>wBL x p1)).bind fun x13 =>
 some (!x13)
def wDe (p0:wAI):Option (Bool) :=
 (wBC p0.Bib 1 999).bind fun x5 =>
 if x5=true then
  (wBC p0.Time (-1) 360000).bind fun x17 =>
  some x17
 else
  some false
def wBA (p0:wAC) (p1:(wAC->Option Bool)):Option (Bool) :=
 (p1 p0).bind fun x5 =>
 some (!x5)
def wAg (p0:List wAC) (p1:(wAC->Option Bool)):Option (Int) :=
 jn (wGR 0 (↑p0.length:Int) (fun k2 _ =>
  (idx p0 (↑k2:Int)).bind fun x22 =>
  (p1 x22).bind fun x30 =>
  if x30=true then
   esc (some (↑k2:Int))
  else
   some (.inl ())) ()) fun _ =>
 some (-1)
def wAl (p0:List wAC) (p1:(wAC->Option Bool)):Option (Bool) :=
 (wAg p0 p1).bind fun x1 =>
 some (decide (0 <= x1))
def wBH (p0:List wAC) (p1:(wAC->Option Bool)):Option (Bool) :=
 (wAl p0 (fun x=>wBA x p1)).bind fun x13 =>
 some (!x13)
def wAx (p0:Int):Option (Bool) :=
 some (decide (p0 <= 4))
def wBU (p0:wAC):Option (Bool) :=
 (if p0.Kind=3 then
  some true
 else
  (wAx p0.Kind).bind fun x13 =>
  if x13=true then
   some false
  else
   some (decide (¬ (p0.Kind=6)))).bind fun b5 =>
 if b5=true then
  (wBC p0.Number 1 9999).bind fun x38 =>
  if x38=true then
   (wBC p0.Kind 0 9).bind fun x50 =>
   if x50=true then
    (wBC p0.Minute 0 10000).bind fun x62 =>
    if x62=true then
     (wBC p0.Much 0 0).bind fun x74 =>
     some x74
    else
     some false
   else
    some false
  else
   some false
 else
  (wBC p0.Number 1 9999).bind fun x88 =>
  if x88=true then
   (wBC p0.Kind 0 9).bind fun x100 =>
   if x100=true then
    (wBC p0.Minute 0 10000).bind fun x112 =>
    if x112=true then
     (wBC p0.Much 0 36000).bind fun x124 =>
     some x124
    else
     some false
   else
    some false
  else
   some false
def wCY (p0:wAV):Option ((List Int)) :=
 (wCM 0 (↑p0.Skiers.length:Int) (fun k22 l18 =>
  (idx p0.Skiers (↑k22:Int)).bind fun x45 =>
  (app 8 l18 [x45.Bib]).bind fun x65 =>
  some x65) []).bind fun y27 =>
 some y27
def wEN (p0:List Int):Option (Bool) :=
 jn (wGR 0 (↑p0.length:Int) (fun k20 l17 =>
  (idx p0 (↑k20:Int)).bind fun x41 =>
  if (wDn l17 x41 false)=true then
   esc (some true)
  else
   some (.inl (wFX l17 x41 true))) ([]:List (Int × Bool))) fun y68 =>
 some false
def wCP (p0:wAV):Option ((List Int)) :=
 (wCM 0 (↑p0.Decisions.length:Int) (fun k22 l18 =>
  (idx p0.Decisions (↑k22:Int)).bind fun x45 =>
  (app 8 l18 [x45.Number]).bind fun x65 =>
  some x65) []).bind fun y27 =>
 some y27
def wCl (p0:List Int) (p1:Int):Option (Int) :=
 jn (wGR 0 (↑p0.length:Int) (fun k2 _ =>
  (idx p0 (↑k2:Int)).bind fun x22 =>
  if p1=x22 then
   esc (some (↑k2:Int))
  else
   some (.inl ())) ()) fun _ =>
 some (-1)
def wBQ (p0:List Int) (p1:Int):Option (Bool) :=
 (wCl p0 p1).bind fun x1 =>
 some (decide (0 <= x1))
def wDf (p0:wAC) (p1:wAV):Option (Bool) :=
 (wAx p0.Kind).bind fun x5 =>
 if x5=true then
  (wCY p1).bind fun x22 =>
  (wBQ x22 p0.Bib).bind fun x40 =>
  some x40
 else
  some (decide (p0.Bib=0))
def wDg (p0:wAC):Option (Bool) :=
 (wAx p0.Kind).bind fun x5 =>
 if x5=true then
  some (decide (p0.About=0))
 else
  (wBC p0.About 1 (w64 (p0.Number - 1))).bind fun x18 =>
  some x18
def wEk (p0:wAV):Option (Int) :=
 (wBC (↑p0.Skiers.length:Int) 1 30).bind fun x10 =>
 if x10=true then
  if 40 < (↑p0.Decisions.length:Int) then
   some 2
  else
   (wBC p0.Deadline 0 10000).bind fun x26 =>
   if x26=true then
    (wCO p0.Skiers wDe).bind fun x43 =>
    if x43=true then
     (wBH p0.Decisions wBU).bind fun x61 =>
     if x61=true then
      (wCY p0).bind fun x77 =>
      (wEN x77).bind fun x95 =>
      if x95=true then
       some 5
      else
       (wCP p0).bind fun x117 =>
       (wEN x117).bind fun x135 =>
       if x135=true then
        some 5
       else
        (wBH p0.Decisions (fun x=>wDf x p0)).bind fun x161 =>
        if x161=true then
         (wBH p0.Decisions wDg).bind fun x176 =>
         if x176=true then
          some 0
         else
          some 4
        else
         some 1
     else
      some 3
    else
     some 3
   else
    some 3
 else
  some 2
def wBb (p0:List wAI) (p1:((wAI × wAI)->Option Int)):Option (List wAI):=wIg p1 p0
def wDM (p0:wAI) (p1:wAI):Option (Int) :=
 (wAh p0.Bib p1.Bib).bind fun x9 =>
 some x9
def wBI (p0:List wAC) (p1:((wAC × wAC)->Option Int)):Option (List wAC):=wIg p1 p0
def wDN (p0:wAC) (p1:wAC):Option (Int) :=
 (wAh p0.Number p1.Number).bind fun x9 =>
 some x9
def wES (p0:wAV):Option (wAV × Int) :=
 (wEk p0).bind fun x9 =>
 if x9=0 then
  ((mkz 16 (↑p0.Skiers.length:Int) (⟨0,0⟩:wAI)).bind fun x32 =>
  (mkz 48 (↑p0.Decisions.length:Int) (⟨0,0,0,0,0,0⟩:wAC)).bind fun x40 =>
  some (x32,x40)).bind fun (l23,l26) =>
  (wOE l23 0 p0.Skiers).bind fun x223 =>
  (wOE l26 0 p0.Decisions).bind fun x233 =>
  (wBb x223 (fun x=>wDM x.1 x.2)).bind fun x242 =>
  (wBI x233 (fun x=>wDN x.1 x.2)).bind fun x256 =>
  some ((⟨p0.Deadline,x242,x256⟩:wAV),0)
 else
  some ((⟨0,[],[]⟩:wAV),x9)
def wAf {S E:Type} (f:S->(Int × wAC)->Option (S ⊕ E)) (s0:S) (p1:List wAC):Option (S ⊕ E) :=
 iter (fun (x11,s12) =>
  if 0 <= x11 then
   (idx p1 x11).bind fun x31 =>
   (f s12 (x11,x31)).bind fun yr39 =>
   match yr39 with
   | .inl s49 =>
    some (.inl (w64 (x11 - 1),s49))
   | .inr s49 =>
    esc (some (.inr s49))
  else
   esc (some (.inl s12))) big (w64 ((↑p1.length:Int) - 1),s0)
def wAo (p0:List wAC):Option (Unit) :=
 some ()
def wEl (p0:wAV):Option ((Option wAX) × Int) :=
 (wES p0).bind fun (x5,x6) =>
 if x6=0 then
  (wAo x5.Decisions).bind fun _ =>
  (wAf (S:=(List (Int × wAC))) (E:=Empty) (fun l121 x134 =>
   if 0 < x134.2.About then
    none
   else
    some (.inl (wFX l121 x134.2.Number x134.2))) ([]:List (Int × wAC)) x5.Decisions).bind fun rr127 =>
  match rr127 with
  | .inl y186 =>
   some ((some (⟨x5,y186,([]:List (Int × Unit))⟩:wAX)),0)
  | .inr e189 =>
   e189.elim
 else
  some (none,x6)
def wEG (p0:Int):Option (Bool) :=
 if p0=4 then
  some true
 else
  some (decide (p0=7))
def wDc (p0:wAX) (p1:wAC):Option (Bool) :=
 (wEG p1.Kind).bind fun x7 =>
 if x7=true then
  some (decide (p0.Record.Deadline < p1.Minute))
 else
  some false
def wDk (p0:wAC) (p1:(Int->Option Bool)) (p2:wAX) (p3:Unit):Option (wAC × Bool) :=
 (wCM 0 0 (fun k12 _ =>
  none) ()).bind fun _ =>
 some ((⟨0,0,0,0,0,0⟩:wAC),false)
def wDO (p0:Int):Option (Bool) :=
 if p0=8 then
  some true
 else
  some (decide (p0=9))
def wCy (p0:wAC) (p1:List (Int × Bool)) (p2:wAX) (p3:wAX) (p4:Unit):Option (Bool × (List (Int × Bool))) :=
 if (wNQ p1 p0.Number)=true then
  some ((wDn p1 p0.Number false),p1)
 else
  (wDc p2 p0).bind fun x9 =>
  (wCM 0 0 (fun k25 _ =>
   none) ()).bind fun _ =>
  some (!x9,(wFX p1 p0.Number (!x9)))
def wET (p0:wAC) (p1:wAX):Option (wAC × Bool) :=
 (wDk p0 wDO p1 ()).bind fun (x10,x11) =>
 some (x10,x11)
def wEU (p0:wAC) (p1:wAX) (p2:List Int):Option (Bool) :=
 (wET p0 p1).bind fun (x5,x6) =>
 if x6=true then
  some (decide (x5.Kind=8))
 else
  (wBQ p2 p0.Number).bind fun x28 =>
  some x28
def wCZ (p0:Int):Option (Bool) :=
 some (decide (p0=6))
def wEV (p0:wAC) (p1:wAX):Option (wAC × Bool) :=
 (wDk p0 wCZ p1 ()).bind fun (x10,x11) =>
 some (x10,x11)
def wAW (p0:wAC) (p1:wAX):Option (Int) :=
 (wEV p0 p1).bind fun (x5,x6) =>
 if x6=true then
  none
 else
  some p0.Much
def wEH (p0:wAX) (p1:List Int):Option ((List (Int × Bool))) :=
 some ([]:List (Int × Bool))
def wDP (p0:(wAX × List Int × List (Int × Bool))) (p1:wAC) (p2:Int):Option (Bool × (List (Int × Bool))) :=
 (wAx p1.Kind).bind fun x10 =>
 if x10=true then
  if p1.Bib=p2 then
   (wCy p1 p0.2.2 p0.1 p0.1 ()).bind fun (x32,x33) =>
   if x32=true then
    if p1.Kind=4 then
     (wEU p1 p0.1 p0.2.1).bind fun x65 =>
     some (x65,x33)
    else
     some (true,x33)
   else
    some (false,x33)
  else
   some (false,p0.2.2)
 else
  some (false,p0.2.2)
def wBG (p0:Int) (p1:Int):Option (Int) :=
 some (w64 (p0 + p1))
def wCr (p0:Int) (p1:Int):Option (Int) :=
 some (w64 (p0 - p1))
def wCD (p0:Int) (p1:Int):Option (Int) :=
 some (w64 (p0 + (w64 (1200 * p1))))
def wCs (p0:Int) (p1:Int):Option (Int) :=
 some p0
def wAZ :Option (Unit) :=
 some ()
def wDt (p0:Int) (p1:List Int):Option (Int) :=
 (wCM 0 (↑p1.length:Int) (fun k7 x6 =>
  (idx p1 (↑k7:Int)).bind fun x28 =>
  some (max x6 x28)) p0).bind fun y12 =>
 some y12
def wCe (p0:wAX) (p1:wAI) (p2:(wAX × List Int × List (Int × Bool))):Option (Int × Bool × (List (Int × Bool))) :=
 (wCM 0 (↑p0.Record.Decisions.length:Int) (fun k34 (l29,b32,x33) =>
  ((idx p0.Record.Decisions (↑k34:Int)).bind fun x69 =>
  (wDP (p2.1,p2.2.1,l29) x69 p1.Bib).bind fun (x96,x97) =>
  if x96=true then
   if b32=true then
    if x69.Kind=0 then
     (wAZ).bind fun _ =>
     (wAW x69 p2.1).bind fun x144 =>
     (wBG x33 x144).bind fun x154 =>
     some (x97,true,x154)
    else
     if x69.Kind=1 then
      (wAZ).bind fun _ =>
      (wAW x69 p2.1).bind fun x199 =>
      (wCr x33 x199).bind fun x209 =>
      some (x97,true,x209)
     else
      if x69.Kind=2 then
       (wAZ).bind fun _ =>
       (wAW x69 p2.1).bind fun x254 =>
       (wCD x33 x254).bind fun x264 =>
       some (x97,true,x264)
      else
       if x69.Kind=3 then
        (wAZ).bind fun _ =>
        (wAW x69 p2.1).bind fun x309 =>
        (wCs x33 x309).bind fun x319 =>
        some (x97,true,x319)
       else
        if x69.Kind=4 then
         (wAZ).bind fun _ =>
         (wAW x69 p2.1).bind fun x364 =>
         (wBG x33 x364).bind fun x374 =>
         some (x97,true,x374)
        else
         none
   else
    if x69.Kind=0 then
     (wAZ).bind fun _ =>
     (wAW x69 p2.1).bind fun x420 =>
     (wBG x33 x420).bind fun x430 =>
     some (x97,decide (x69.Kind=3),x430)
    else
     if x69.Kind=1 then
      (wAZ).bind fun _ =>
      (wAW x69 p2.1).bind fun x475 =>
      (wCr x33 x475).bind fun x485 =>
      some (x97,decide (x69.Kind=3),x485)
     else
      if x69.Kind=2 then
       (wAZ).bind fun _ =>
       (wAW x69 p2.1).bind fun x530 =>
       (wCD x33 x530).bind fun x540 =>
       some (x97,decide (x69.Kind=3),x540)
      else
       if x69.Kind=3 then
        (wAZ).bind fun _ =>
        (wAW x69 p2.1).bind fun x585 =>
        (wCs x33 x585).bind fun x595 =>
        some (x97,decide (x69.Kind=3),x595)
       else
        if x69.Kind=4 then
         (wAZ).bind fun _ =>
         (wAW x69 p2.1).bind fun x640 =>
         (wBG x33 x640).bind fun x650 =>
         some (x97,decide (x69.Kind=3),x650)
        else
         none
  else
   some (x97,b32,x33)).bind fun (l61,b64,x65) =>
  some (l61,b64,x65)) (p2.2.2,decide (p1.Time=(-1)),p1.Time)).bind fun (y39,y40,y41) =>
 if y40=true then
  some (0,true,y39)
 else
  (wDt 0 [y41]).bind fun x725 =>
  some (x725,false,y39)
def wAi (p0:List wAA) (p1:Int) (p2:Int) (p3:((wAA × wAA)->Option Int)):Option ((List wAA)) :=
 iter (fun (l8,x9) =>
  if x9 < p2 then
   iter (fun (l34,x35) =>
    if p1 < x35 then
     (chk x35 l34.length).bind fun _ =>
     (chk (w64 (x35 - 1)) l34.length).bind fun _ =>
     (p3 ((gd l34 x35.toNat),(gd l34 (w64 (x35 - 1)).toNat))).bind fun x65 =>
     if x65 < 0 then
      (chk (w64 (x35 - 1)) (hM l34 x35.toNat (gd l34 (w64 (x35 - 1)).toNat)).length).bind fun _ =>
      some (.inl ((hM (hM l34 x35.toNat (gd l34 (w64 (x35 - 1)).toNat)) (w64 (x35 - 1)).toNat (gd l34 x35.toNat)),w64 (x35 - 1)))
     else
      esc (some (.inl (l34,w64 (x9 + 1))))
    else
     esc (some (.inl (l34,w64 (x9 + 1))))) big (l8,x9)
  else
   esc (some l8)) big (p0,w64 (p1 + 1))
def wAw (p0:List wAA) (p1:Int) (p2:Int) (p3:Int) (p4:((wAA × wAA)->Option Int)):Option ((List wAA)) :=
 (wCM 0 p3 (fun k8 l7 =>
  (chk (w64 (p2 + (↑k8:Int))) l7.length).bind fun _ =>
  (chk (w64 (p1 + (↑k8:Int))) l7.length).bind fun _ =>
  (chk (w64 (p2 + (↑k8:Int))) (hM l7 (w64 (p1 + (↑k8:Int))).toNat (gd l7 (w64 (p2 + (↑k8:Int))).toNat)).length).bind fun _ =>
  some (hM (hM l7 (w64 (p1 + (↑k8:Int))).toNat (gd l7 (w64 (p2 + (↑k8:Int))).toNat)) (w64 (p2 + (↑k8:Int))).toNat (gd l7 (w64 (p1 + (↑k8:Int))).toNat))) p0).bind fun y13 =>
 some y13
def wBW (p0:List wAA) (p1:Int) (p2:Int) (p3:Int) (p4:((wAA × wAA)->Option Int)):Option ((List wAA)) :=
 (iter (fun (l16,x17,x18) =>
  if x17=x18 then
   esc (some (l16,x17))
  else
   if x18 < x17 then
    (wAw l16 (w64 (p2 - x17)) p2 x18 p4).bind fun x46 =>
    some (.inl (x46,w64 (x17 - x18),x18))
   else
    (wAw l16 (w64 (p2 - x17)) (w64 ((w64 (p2 + x18)) - x17)) x17 p4).bind fun x62 =>
    some (.inl (x62,x17,w64 (x18 - x17)))) big (p0,w64 (p2 - p1),w64 (p3 - p2))).bind fun (l2,x3) =>
 (wAw l2 (w64 (p2 - x3)) p2 x3 p4).bind fun x87 =>
 some x87
def wBl (rec_:(List wAA)->Int->Int->Int->((wAA × wAA)->Option Int)->Option ((List wAA))) (p0:List wAA) (p1:Int) (p2:Int) (p3:Int) (p4:((wAA × wAA)->Option Int)):Option ((List wAA)) :=
 if (w64 (p2 - p1))=1 then
  (iter (fun (x14,x15) =>
   if x14 < x15 then
    (chk (w64 ((wBD (w64 (x14 + x15))) / 2)) p0.length).bind fun _ =>
    (chk p1 p0.length).bind fun _ =>
    (p4 ((gd p0 (w64 ((wBD (w64 (x14 + x15))) / 2)).toNat),(gd p0 p1.toNat))).bind fun x43 =>
    if x43 < 0 then
     some (.inl (w64 ((w64 ((wBD (w64 (x14 + x15))) / 2)) + 1),x15))
    else
     some (.inl (x14,w64 ((wBD (w64 (x14 + x15))) / 2)))
   else
    esc (some x14)) big (p2,p3)).bind fun x4 =>
  iter (fun (l80,x81) =>
   if x81 < (w64 (x4 - 1)) then
    (chk (w64 (x81 + 1)) l80.length).bind fun _ =>
    (chk x81 l80.length).bind fun _ =>
    (chk (w64 (x81 + 1)) (hM l80 x81.toNat (gd l80 (w64 (x81 + 1)).toNat)).length).bind fun _ =>
    some (.inl ((hM (hM l80 x81.toNat (gd l80 (w64 (x81 + 1)).toNat)) (w64 (x81 + 1)).toNat (gd l80 x81.toNat)),w64 (x81 + 1)))
   else
    esc (some l80)) big (p0,p1)
 else
  if (w64 (p3 - p2))=1 then
   (iter (fun (x137,x138) =>
    if x137 < x138 then
     (chk p2 p0.length).bind fun _ =>
     (chk (w64 ((wBD (w64 (x137 + x138))) / 2)) p0.length).bind fun _ =>
     (p4 ((gd p0 p2.toNat),(gd p0 (w64 ((wBD (w64 (x137 + x138))) / 2)).toNat))).bind fun x166 =>
     if x166 < 0 then
      some (.inl (x137,w64 ((wBD (w64 (x137 + x138))) / 2)))
     else
      some (.inl (w64 ((w64 ((wBD (w64 (x137 + x138))) / 2)) + 1),x138))
    else
     esc (some x137)) big (p1,p2)).bind fun x127 =>
   iter (fun (l203,x204) =>
    if x127 < x204 then
     (chk (w64 (x204 - 1)) l203.length).bind fun _ =>
     (chk x204 l203.length).bind fun _ =>
     (chk (w64 (x204 - 1)) (hM l203 x204.toNat (gd l203 (w64 (x204 - 1)).toNat)).length).bind fun _ =>
     some (.inl ((hM (hM l203 x204.toNat (gd l203 (w64 (x204 - 1)).toNat)) (w64 (x204 - 1)).toNat (gd l203 x204.toNat)),w64 (x204 - 1)))
    else
     esc (some l203)) big (p0,p2)
  else
   if (w64 ((wBD (w64 (p1 + p3))) / 2)) < p2 then
    (iter (fun (x260,x261) =>
     if x260 < x261 then
      (chk (w64 ((w64 ((w64 ((w64 ((wBD (w64 (p1 + p3))) / 2)) + p2)) - 1)) - (w64 ((wBD (w64 (x260 + x261))) / 2)))) p0.length).bind fun _ =>
      (chk (w64 ((wBD (w64 (x260 + x261))) / 2)) p0.length).bind fun _ =>
      (p4 ((gd p0 (w64 ((w64 ((w64 ((w64 ((wBD (w64 (p1 + p3))) / 2)) + p2)) - 1)) - (w64 ((wBD (w64 (x260 + x261))) / 2)))).toNat),(gd p0 (w64 ((wBD (w64 (x260 + x261))) / 2)).toNat))).bind fun x294 =>
      if x294 < 0 then
       some (.inl (x260,w64 ((wBD (w64 (x260 + x261))) / 2)))
      else
       some (.inl (w64 ((w64 ((wBD (w64 (x260 + x261))) / 2)) + 1),x261))
     else
      esc (some x260)) big (w64 ((w64 ((w64 ((wBD (w64 (p1 + p3))) / 2)) + p2)) - p3),w64 ((wBD (w64 (p1 + p3))) / 2))).bind fun x250 =>
    (if x250 < p2 then
     some (decide (p2 < (w64 ((w64 ((w64 ((wBD (w64 (p1 + p3))) / 2)) + p2)) - x250))))
    else
     some false).bind fun b330 =>
    if b330=true then
     (wBW p0 x250 p2 (w64 ((w64 ((w64 ((wBD (w64 (p1 + p3))) / 2)) + p2)) - x250)) p4).bind fun x357 =>
     if p1 < x250 then
      if x250 < (w64 ((wBD (w64 (p1 + p3))) / 2)) then
       (rec_ x357 p1 x250 (w64 ((wBD (w64 (p1 + p3))) / 2)) p4).bind fun x373 =>
       if (w64 ((wBD (w64 (p1 + p3))) / 2)) < (w64 ((w64 ((w64 ((wBD (w64 (p1 + p3))) / 2)) + p2)) - x250)) then
        if (w64 ((w64 ((w64 ((wBD (w64 (p1 + p3))) / 2)) + p2)) - x250)) < p3 then
         (rec_ x373 (w64 ((wBD (w64 (p1 + p3))) / 2)) (w64 ((w64 ((w64 ((wBD (w64 (p1 + p3))) / 2)) + p2)) - x250)) p3 p4).bind fun x389 =>
         some x389
        else
         some x373
       else
        some x373
      else
       if (w64 ((wBD (w64 (p1 + p3))) / 2)) < (w64 ((w64 ((w64 ((wBD (w64 (p1 + p3))) / 2)) + p2)) - x250)) then
        if (w64 ((w64 ((w64 ((wBD (w64 (p1 + p3))) / 2)) + p2)) - x250)) < p3 then
         (rec_ x357 (w64 ((wBD (w64 (p1 + p3))) / 2)) (w64 ((w64 ((w64 ((wBD (w64 (p1 + p3))) / 2)) + p2)) - x250)) p3 p4).bind fun x408 =>
         some x408
        else
         some x357
       else
        some x357
     else
      if (w64 ((wBD (w64 (p1 + p3))) / 2)) < (w64 ((w64 ((w64 ((wBD (w64 (p1 + p3))) / 2)) + p2)) - x250)) then
       if (w64 ((w64 ((w64 ((wBD (w64 (p1 + p3))) / 2)) + p2)) - x250)) < p3 then
        (rec_ x357 (w64 ((wBD (w64 (p1 + p3))) / 2)) (w64 ((w64 ((w64 ((wBD (w64 (p1 + p3))) / 2)) + p2)) - x250)) p3 p4).bind fun x427 =>
        some x427
       else
        some x357
      else
       some x357
    else
     if p1 < x250 then
      if x250 < (w64 ((wBD (w64 (p1 + p3))) / 2)) then
       (rec_ p0 p1 x250 (w64 ((wBD (w64 (p1 + p3))) / 2)) p4).bind fun x447 =>
       if (w64 ((wBD (w64 (p1 + p3))) / 2)) < (w64 ((w64 ((w64 ((wBD (w64 (p1 + p3))) / 2)) + p2)) - x250)) then
        if (w64 ((w64 ((w64 ((wBD (w64 (p1 + p3))) / 2)) + p2)) - x250)) < p3 then
         (rec_ x447 (w64 ((wBD (w64 (p1 + p3))) / 2)) (w64 ((w64 ((w64 ((wBD (w64 (p1 + p3))) / 2)) + p2)) - x250)) p3 p4).bind fun x463 =>
         some x463
        else
         some x447
       else
        some x447
      else
       if (w64 ((wBD (w64 (p1 + p3))) / 2)) < (w64 ((w64 ((w64 ((wBD (w64 (p1 + p3))) / 2)) + p2)) - x250)) then
        if (w64 ((w64 ((w64 ((wBD (w64 (p1 + p3))) / 2)) + p2)) - x250)) < p3 then
         (rec_ p0 (w64 ((wBD (w64 (p1 + p3))) / 2)) (w64 ((w64 ((w64 ((wBD (w64 (p1 + p3))) / 2)) + p2)) - x250)) p3 p4).bind fun x483 =>
         some x483
        else
         some p0
       else
        some p0
     else
      if (w64 ((wBD (w64 (p1 + p3))) / 2)) < (w64 ((w64 ((w64 ((wBD (w64 (p1 + p3))) / 2)) + p2)) - x250)) then
       if (w64 ((w64 ((w64 ((wBD (w64 (p1 + p3))) / 2)) + p2)) - x250)) < p3 then
        (rec_ p0 (w64 ((wBD (w64 (p1 + p3))) / 2)) (w64 ((w64 ((w64 ((wBD (w64 (p1 + p3))) / 2)) + p2)) - x250)) p3 p4).bind fun x503 =>
        some x503
       else
        some p0
      else
       some p0
   else
    (iter (fun (x527,x528) =>
     if x527 < x528 then
      (chk (w64 ((w64 ((w64 ((w64 ((wBD (w64 (p1 + p3))) / 2)) + p2)) - 1)) - (w64 ((wBD (w64 (x527 + x528))) / 2)))) p0.length).bind fun _ =>
      (chk (w64 ((wBD (w64 (x527 + x528))) / 2)) p0.length).bind fun _ =>
      (p4 ((gd p0 (w64 ((w64 ((w64 ((w64 ((wBD (w64 (p1 + p3))) / 2)) + p2)) - 1)) - (w64 ((wBD (w64 (x527 + x528))) / 2)))).toNat),(gd p0 (w64 ((wBD (w64 (x527 + x528))) / 2)).toNat))).bind fun x561 =>
      if x561 < 0 then
       some (.inl (x527,w64 ((wBD (w64 (x527 + x528))) / 2)))
      else
       some (.inl (w64 ((w64 ((wBD (w64 (x527 + x528))) / 2)) + 1),x528))
     else
      esc (some x527)) big (p1,p2)).bind fun x517 =>
    (if x517 < p2 then
     some (decide (p2 < (w64 ((w64 ((w64 ((wBD (w64 (p1 + p3))) / 2)) + p2)) - x517))))
    else
     some false).bind fun b597 =>
    if b597=true then
     (wBW p0 x517 p2 (w64 ((w64 ((w64 ((wBD (w64 (p1 + p3))) / 2)) + p2)) - x517)) p4).bind fun x624 =>
     if p1 < x517 then
      if x517 < (w64 ((wBD (w64 (p1 + p3))) / 2)) then
       (rec_ x624 p1 x517 (w64 ((wBD (w64 (p1 + p3))) / 2)) p4).bind fun x640 =>
       if (w64 ((wBD (w64 (p1 + p3))) / 2)) < (w64 ((w64 ((w64 ((wBD (w64 (p1 + p3))) / 2)) + p2)) - x517)) then
        if (w64 ((w64 ((w64 ((wBD (w64 (p1 + p3))) / 2)) + p2)) - x517)) < p3 then
         (rec_ x640 (w64 ((wBD (w64 (p1 + p3))) / 2)) (w64 ((w64 ((w64 ((wBD (w64 (p1 + p3))) / 2)) + p2)) - x517)) p3 p4).bind fun x656 =>
         some x656
        else
         some x640
       else
        some x640
      else
       if (w64 ((wBD (w64 (p1 + p3))) / 2)) < (w64 ((w64 ((w64 ((wBD (w64 (p1 + p3))) / 2)) + p2)) - x517)) then
        if (w64 ((w64 ((w64 ((wBD (w64 (p1 + p3))) / 2)) + p2)) - x517)) < p3 then
         (rec_ x624 (w64 ((wBD (w64 (p1 + p3))) / 2)) (w64 ((w64 ((w64 ((wBD (w64 (p1 + p3))) / 2)) + p2)) - x517)) p3 p4).bind fun x675 =>
         some x675
        else
         some x624
       else
        some x624
     else
      if (w64 ((wBD (w64 (p1 + p3))) / 2)) < (w64 ((w64 ((w64 ((wBD (w64 (p1 + p3))) / 2)) + p2)) - x517)) then
       if (w64 ((w64 ((w64 ((wBD (w64 (p1 + p3))) / 2)) + p2)) - x517)) < p3 then
        (rec_ x624 (w64 ((wBD (w64 (p1 + p3))) / 2)) (w64 ((w64 ((w64 ((wBD (w64 (p1 + p3))) / 2)) + p2)) - x517)) p3 p4).bind fun x694 =>
        some x694
       else
        some x624
      else
       some x624
    else
     if p1 < x517 then
      if x517 < (w64 ((wBD (w64 (p1 + p3))) / 2)) then
       (rec_ p0 p1 x517 (w64 ((wBD (w64 (p1 + p3))) / 2)) p4).bind fun x714 =>
       if (w64 ((wBD (w64 (p1 + p3))) / 2)) < (w64 ((w64 ((w64 ((wBD (w64 (p1 + p3))) / 2)) + p2)) - x517)) then
        if (w64 ((w64 ((w64 ((wBD (w64 (p1 + p3))) / 2)) + p2)) - x517)) < p3 then
         (rec_ x714 (w64 ((wBD (w64 (p1 + p3))) / 2)) (w64 ((w64 ((w64 ((wBD (w64 (p1 + p3))) / 2)) + p2)) - x517)) p3 p4).bind fun x730 =>
         some x730
        else
         some x714
       else
        some x714
      else
       if (w64 ((wBD (w64 (p1 + p3))) / 2)) < (w64 ((w64 ((w64 ((wBD (w64 (p1 + p3))) / 2)) + p2)) - x517)) then
        if (w64 ((w64 ((w64 ((wBD (w64 (p1 + p3))) / 2)) + p2)) - x517)) < p3 then
         (rec_ p0 (w64 ((wBD (w64 (p1 + p3))) / 2)) (w64 ((w64 ((w64 ((wBD (w64 (p1 + p3))) / 2)) + p2)) - x517)) p3 p4).bind fun x750 =>
         some x750
        else
         some p0
       else
        some p0
     else
      if (w64 ((wBD (w64 (p1 + p3))) / 2)) < (w64 ((w64 ((w64 ((wBD (w64 (p1 + p3))) / 2)) + p2)) - x517)) then
       if (w64 ((w64 ((w64 ((wBD (w64 (p1 + p3))) / 2)) + p2)) - x517)) < p3 then
        (rec_ p0 (w64 ((wBD (w64 (p1 + p3))) / 2)) (w64 ((w64 ((w64 ((wBD (w64 (p1 + p3))) / 2)) + p2)) - x517)) p3 p4).bind fun x770 =>
        some x770
       else
        some p0
      else
       some p0
def wAy:Nat->(List wAA)->Int->Int->Int->((wAA × wAA)->Option Int)->Option ((List wAA))
 | 0=>fun _ _ _ _ _=>none
 | n_ + 1=>wBl (wAy n_)
def wBX (p0:List wAA) (p1:Int) (p2:((wAA × wAA)->Option Int)):Option ((List wAA)) :=
 (iter (fun (l16,x17,x18) =>
  if x18 <= p1 then
   (wAi l16 x17 x18 p2).bind fun x39 =>
   some (.inl (x39,x18,w64 (x18 + 20)))
  else
   esc (some (l16,x17))) big (p0,(0:Int),(20:Int))).bind fun (l2,x3) =>
 (wAi l2 x3 p1 p2).bind fun x71 =>
 iter (fun (l88,x89) =>
  if x89 < p1 then
   (iter (fun (l121,x122,x123) =>
    if x123 <= p1 then
     (wAy 1000 l121 x122 (w64 (x122 + x89)) x123 p2).bind fun x146 =>
     some (.inl (x146,x123,w64 (x123 + (w64 (2 * x89)))))
    else
     esc (some (l121,x122))) big (l88,(0:Int),w64 (2 * x89))).bind fun (l107,x108) =>
   if (w64 (x108 + x89)) < p1 then
    (wAy 1000 l107 x108 (w64 (x108 + x89)) p1 p2).bind fun x182 =>
    some (.inl (x182,w64 (x89 * 2)))
   else
    some (.inl (l107,w64 (x89 * 2)))
  else
   esc (some l88)) big (x71,(20:Int))
def wAe (p0:List wAA) (p1:((wAA × wAA)->Option Int)):Option ((List wAA)) :=
 (wBX p0 (↑p0.length:Int) p1).bind fun x2 =>
 some x2
def wBT (p0:wAA) (p1:wAA):Option (Int) :=
 (wAh p0.Total p1.Total).bind fun x9 =>
 some x9
def wDl (p0:wAX) (p1:(wAX × List Int × List (Int × Bool))):Option ((List wAA) × (List (Int × Bool))) :=
 (wCM 0 (↑p0.Record.Skiers.length:Int) (fun k50 (l39,l42,l46) =>
  (idx p0.Record.Skiers (↑k50:Int)).bind fun x81 =>
  (wCe p0 x81 (p1.1,p1.2.1,l39)).bind fun (x112,x113,x114) =>
  if x113=true then
   (app 24 l46 [(⟨x81.Bib,-1,0⟩:wAA)]).bind fun x135 =>
   some (x114,l42,x135)
  else
   (app 24 l42 [(⟨x81.Bib,0,x112⟩:wAA)]).bind fun x158 =>
   some (x114,x158,l46)) (p1.2.2,[],[])).bind fun (y55,y56,y57) =>
 (wAe y56 (fun x=>wBT x.1 x.2)).bind fun x206 =>
 (wCM 0 (↑x206.length:Int) (fun k224 l223 =>
  (chk (↑k224:Int) l223.length).bind fun _ =>
  if 0 < (↑k224:Int) then
   (chk (↑k224:Int) (hM l223 k224 (⟨(gd l223 k224).Bib,(↑(k224 + 1):Int),(gd l223 k224).Total⟩:wAA)).length).bind fun _ =>
   (chk (w64 ((↑k224:Int) - 1)) (hM l223 k224 (⟨(gd l223 k224).Bib,(↑(k224 + 1):Int),(gd l223 k224).Total⟩:wAA)).length).bind fun _ =>
   if ((gd (hM l223 k224 (⟨(gd l223 k224).Bib,(↑(k224 + 1):Int),(gd l223 k224).Total⟩:wAA)) k224).Total)=((gd (hM l223 k224 (⟨(gd l223 k224).Bib,(↑(k224 + 1):Int),(gd l223 k224).Total⟩:wAA)) (w64 ((↑k224:Int) - 1)).toNat).Total) then
    some (hM (hM l223 k224 (⟨(gd l223 k224).Bib,(↑(k224 + 1):Int),(gd l223 k224).Total⟩:wAA)) k224 (⟨(gd (hM l223 k224 (⟨(gd l223 k224).Bib,(↑(k224 + 1):Int),(gd l223 k224).Total⟩:wAA)) k224).Bib,(gd (hM l223 k224 (⟨(gd l223 k224).Bib,(↑(k224 + 1):Int),(gd l223 k224).Total⟩:wAA)) (w64 ((↑k224:Int) - 1)).toNat).Place,(gd (hM l223 k224 (⟨(gd l223 k224).Bib,(↑(k224 + 1):Int),(gd l223 k224).Total⟩:wAA)) k224).Total⟩:wAA))
   else
    some (hM l223 k224 (⟨(gd l223 k224).Bib,(↑(k224 + 1):Int),(gd l223 k224).Total⟩:wAA))
  else
   some (hM l223 k224 (⟨(gd l223 k224).Bib,(↑(k224 + 1):Int),(gd l223 k224).Total⟩:wAA))) x206).bind fun y229 =>
 (app 24 y229 y57).bind fun x289 =>
 some (x289,y55)
def wDx (p0:wAV):Option ((List wAA) × Int) :=
 (wEl p0).bind fun (x5,x6) =>
 match x5 with
 | none =>
  if x6=0 then
   none
  else
   some ([],x6)
 | some x27 =>
  if x6=0 then
   (wEH x27 []).bind fun x74 =>
   (wDl x27 (x27,[],x74)).bind fun (x106,x107) =>
   some (x106,0)
  else
   some ([],x6)
def wCm (p0:List Int) (p1:Int):Option (Bool) :=
 (wDs p0).bind fun x1 =>
 (wCb p1 1300).bind fun x21 =>
 (wBN x1 1 8).bind fun (x46,x47) =>
 jn (wGR 0 x46 (fun k136 (l117,x120,x121,l122,l126,l130,x135) =>
  (iter (fun (l206,x209,x210,l211,x215) =>
   (if (↑l211.length:Int) < 5 then
    some (l206,x209,x210,true)
   else
    if (↑l211.length:Int) < 8 then
     if x215 < 5 then
      (wAc (⟨l206,x209,x210⟩:wAO) 4).bind fun (x260,x261) =>
      some (x261.bytes,x261.next,x261.state,!x260)
     else
      some (l206,x209,x210,false)
    else
     some (l206,x209,x210,false)).bind fun (l238,x241,x242,b243) =>
   if b243=true then
    (if x215 < 4 then
     (wAc (⟨l238,x241,x242⟩:wAO) 2).bind fun (x323,x324) =>
     if x323=true then
      some (x324.bytes,x324.next,x324.state,true)
     else
      if x215=4 then
       if 4 <= (↑l211.length:Int) then
        (wAc x324 2).bind fun (x350,x351) =>
        some (x351.bytes,x351.next,x351.state,x350)
       else
        some (x324.bytes,x324.next,x324.state,false)
      else
       some (x324.bytes,x324.next,x324.state,false)
    else
     if x215=4 then
      if 4 <= (↑l211.length:Int) then
       (wAc (⟨l238,x241,x242⟩:wAO) 2).bind fun (x389,x390) =>
       some (x390.bytes,x390.next,x390.state,x389)
      else
       some (l238,x241,x242,false)
     else
      some (l238,x241,x242,false)).bind fun (l312,x315,x316,b317) =>
    (app 1 l211 [b317]).bind fun x444 =>
    if b317=true then
     some (.inl (l312,x315,x316,x444,w64 (x215 + 1)))
    else
     some (.inl (l312,x315,x316,x444,x215))
   else
    esc (some (l238,x241,x242,l211))) big (l117,x120,x121,[],(0:Int))).bind fun (l166,x169,x170,l171) =>
  (wCt l171).bind fun (x504,x505) =>
  if x505=0 then
   (wAp (⟨l166,x169,x170⟩:wAO) 90).bind fun (x526,x527) =>
   (wAp x527 90).bind fun (x541,x542) =>
   (wAc x542 6).bind fun (x576,x577) =>
   if x576=true then
    (cut [w64 (3000 + x526),w64 (3000 + x541)] 0 1).bind fun x598 =>
    (app 56 l130 [(⟨(↑(k136 + 1):Int),[0],[(⟨0,x598,[]⟩:wAR)]⟩:wAJ)]).bind fun x642 =>
    (app 16 l122 [(⟨(↑(k136 + 1):Int),-1⟩:wAI)]).bind fun x680 =>
    if (↑x598.length:Int)=2 then
     if 0 < x504.Unused then
      (app 48 l126 [(⟨x135,0,0,(↑(k136 + 1):Int),w64 (x504.Unused * x21),0⟩:wAC)]).bind fun x700 =>
      some (.inl (x577.bytes,x577.next,x577.state,x680,x700,x642,w64 (x135 + 1)))
     else
      some (.inl (x577.bytes,x577.next,x577.state,x680,l126,x642,x135))
    else
     some (.inl (x577.bytes,x577.next,x577.state,x680,l126,x642,x135))
   else
    (app 56 l130 [(⟨(↑(k136 + 1):Int),[0],[(⟨0,[w64 (3000 + x526),w64 (3000 + x541)],[l171]⟩:wAR)]⟩:wAJ)]).bind fun x813 =>
    (app 16 l122 [(⟨(↑(k136 + 1):Int),-1⟩:wAI)]).bind fun x841 =>
    if 0 < x504.Unused then
     (app 48 l126 [(⟨x135,0,0,(↑(k136 + 1):Int),w64 (x504.Unused * x21),0⟩:wAC)]).bind fun x870 =>
     some (.inl (x577.bytes,x577.next,x577.state,x841,x870,x813,w64 (x135 + 1)))
    else
     some (.inl (x577.bytes,x577.next,x577.state,x841,l126,x813,x135))
  else
   esc (some false)) (x47.bytes,x47.next,x47.state,[],[],[],1)) fun (y930,y931,y932,y933,y934,y935,y936) =>
 (wDw (⟨(⟨[0],1,2,70,240,x21⟩:wAL),0,y935⟩:wAS)).bind fun (x970,x971) =>
 (wEe (⟨(⟨[0],1,2,70,240,x21⟩:wAL),0,y935⟩:wAS)).bind fun (x988,x989) =>
 (wCi (⟨(⟨[0],1,2,70,240,x21⟩:wAL),0,y935⟩:wAS)).bind fun (x1004,x1005) =>
 if x971=0 then
  if x989=0 then
   if x1005=0 then
    if 0 < (↑x988.length:Int) then
     some false
    else
     if (↑x970.length:Int)=(↑y935.length:Int) then
      if (↑x1004.length:Int)=(↑y935.length:Int) then
       (wCM 0 (↑x970.length:Int) (fun k1056 l1055 =>
        (idx x970 (↑k1056:Int)).bind fun x1079 =>
        if 0 < (↑x1079.length:Int) then
         (idx x1079 0).bind fun x1096 =>
         (chk (↑k1056:Int) l1055.length).bind fun _ =>
         some (hM l1055 k1056 (⟨(gd l1055 k1056).Bib,x1096⟩:wAI))
        else
         some l1055) y933).bind fun y1061 =>
       (wDx (⟨0,y1061,y934⟩:wAV)).bind fun (x1140,x1141) =>
       if x1141=0 then
        if (↑x1140.length:Int)=(↑x1004.length:Int) then
         jn (wGR 0 (↑x1004.length:Int) (fun k1160 _ =>
          (chk (↑k1160:Int) x1004.length).bind fun _ =>
          (chk (↑k1160:Int) x1140.length).bind fun _ =>
          (if ((gd x1004 k1160).Place)=0 then
           if ((gd x1140 k1160).Place)=(-1) then
            if 0 < ((gd x1004 k1160).Place) then
             if ((gd x1140 k1160).Bib)=((gd x1004 k1160).Bib) then
              if ((gd x1140 k1160).Place)=((gd x1004 k1160).Place) then
               some (decide (¬ (((gd x1140 k1160).Total)=((gd x1004 k1160).Time))))
              else
               some true
             else
              some true
            else
             some false
           else
            some true
          else
           if 0 < ((gd x1004 k1160).Place) then
            if ((gd x1140 k1160).Bib)=((gd x1004 k1160).Bib) then
             if ((gd x1140 k1160).Place)=((gd x1004 k1160).Place) then
              some (decide (¬ (((gd x1140 k1160).Total)=((gd x1004 k1160).Time))))
             else
              some true
            else
             some true
           else
            some false).bind fun b1204 =>
          if b1204=true then
           esc (some false)
          else
           some (.inl ())) ()) fun _ =>
         some true
        else
         some false
       else
        some false
      else
       some false
     else
      some false
   else
    some false
  else
   some false
 else
  some false
end
end
end Go.Proofs.YtlmekamhphnmjaaGreat
namespace Go.Proofs.YtlmekamhphnmjaaGreat
open Go.KL
def inB (n lo hi:Int):Bool:=decide (lo <= n/\n <= hi)
theorem wIP (n lo hi:Int):wCU n lo hi=some (inB n lo hi):=by
 unfold wCU inB
 by_cases h:lo <= n
 ·rw [if_pos h];simp [h]
 ·rw [if_neg h];simp [h]
def wFV:List Bool->Nat->Option Nat
 | [],k=>some k
 | b :: l,k=>if k=5 then none else wFV l (k + if b=true then 1 else 0)
theorem wIQ:∀ (l:List Bool) (k m:Nat),k <= 5->wFV l k=some m->k <= m/\m <= 5
 | [],k,m,hk,h=>by cases h;omega
 | b :: l,k,m,hk,h=>by
  rw [wFV] at h
  split at h
  ·cases h
  ·have:=wIQ l _ m (by split <;> omega) h
   split at this <;> omega
theorem wIR {l:List Bool} {R:Type} (z:R) (K:Int->Option R):∀ (m k h:Nat),k + m=l.length->h <= 5 ->
  jn (forN (fun k23 (x22:Int)=>(idx l (↑k23:Int)).bind fun x45=>if x22=0 then esc (some z) else if x45=true then some (.inl (w64 (x22 - 1))) else some (.inl x22)) m k (5 - (h:Int))) K =
   (match wFV (l.drop k) h with | none=>some z | some m=>K (5 - (m:Int)))
 | 0,k,h,hk,_=>by rw [nw (by omega)];rfl
 | m + 1,k,h,hk,h5=>by
  have hlt:k < l.length:=by omega
  rw [List.drop_eq_getElem_cons hlt,wFV,forN,wKN,np hlt]
  simp only [hD]
  by_cases hz:h=5
  ·rw [if_pos (by omega),if_pos hz];rfl
  ·rw [if_neg (by omega),if_neg hz]
   by_cases hb:l[k]=true
   ·rw [if_pos hb,if_pos hb,wAa (by omega) (by omega)]
    have:=wIR (l:=l) z K m (k + 1) (h + 1) (by omega) (by omega)
    rw [show (5:Int) - ((h + 1:Nat):Int)=5 - (h:Int) - 1 by omega] at this
    exact this
   ·rw [if_neg hb,if_neg hb]
    exact wIR (l:=l) z K m (k + 1) h (by omega) h5
def okB (b:List Bool):Prop:=5 <= b.length/\b.length <= 8/\∃ m,wFV b 0=some m
def wFu (b:List Bool):Nat:=(wFV b 0).getD 0
theorem wLF (b:List Bool):wFu b <= 5:=by
 unfold wFu
 cases h:wFV b 0 with
 | none=>exact Nat.zero_le _
 | some m=>exact (wIQ b 0 m (by omega) h).2
theorem wJM {l:List Bool} (h:okB l):wCt l=some (⟨(l.length:Int) - 5,5 - (wFu l:Int),if wFu l < 5 then 8 - (l.length:Int) else 0⟩,0):=by
 obtain ⟨h1,h2,m,hq⟩:=h
 have hn:wFu l=m:=by unfold wFu;rw [hq];rfl
 rw [hn]
 unfold wCt
 have hi:inB l.length 5 8=true:=by unfold inB;simp;omega
 rw [wIP,hD,hi,if_pos rfl,wEF (by omega)]
 have:=wIR (l:=l) (R:=wAj × Int) ((⟨0,0,0⟩:wAj),8) (fun y72=>if 0 < y72 then
   some ((⟨w64 ((↑l.length:Int) - 5),y72,w64 (8 - (↑l.length:Int))⟩:wAj),0)
  else
   some ((⟨w64 ((↑l.length:Int) - 5),y72,0⟩:wAj),0)) l.length 0 0 (by omega) (by omega)
 rw [List.drop_zero] at this
 have e:(5:Int) - ((0:Nat):Int)=5:=by omega
 rw [e] at this
 rw [this,hq]
 have:=wIQ l 0 m (by omega) hq
 simp only
 rw [wAa (by omega) (by omega),wAa (by omega) (by omega)]
 by_cases hm:m < 5
 ·rw [if_pos (by omega),if_pos hm]
 ·rw [if_neg (by omega),if_neg hm]
end Go.Proofs.YtlmekamhphnmjaaGreat
namespace Go.Proofs.YtlmekamhphnmjaaGreat
open Go.KL
structure wEq (p:wAL):Prop where
 n:1 <= p.Classes.length/\p.Classes.length <= 4
 cls:∀ c ∈ p.Classes,0 <= c/\c <= 3
 each:1 <= p.Each/\p.Each <= 4
 laps:1 <= p.Laps/\p.Laps <= 5
 spare:0 <= p.Spare/\p.Spare <= 600
 loop:0 <= p.Loop/\p.Loop <= 600
 unused:0 <= p.Unused/\p.Unused <= 6000
structure wHS (p:wAL) (t:wAJ) (l:wAR):Prop where
 le:(l.Loops.length:Int) <= p.Laps
 bouts:l.Bouts.length=l.Loops.length - 1
 loops:∀ n ∈ l.Loops,1 <= n/\n <= 9000
 skier:0 <= l.Skier/\l.Skier < t.Classes.length
 ok:∀ b ∈ l.Bouts,okB b
structure wOd (p:wAL) (t:wAJ):Prop where
 bib:1 <= t.Bib/\t.Bib <= 999
 n:1 <= t.Classes.length/\t.Classes.length <= 8
 cls:∀ c ∈ t.Classes,0 <= c/\c <= 3
 legs:t.Legs.length <= p.Classes.length
 full:∀ k,k + 1 < t.Legs.length->((gd t.Legs k).Loops.length:Int)=p.Laps
 leg:∀ l ∈ t.Legs,wHS p t l
structure wIS (r:wAS):Prop where
 rules:wEq r.Rules
 n:1 <= r.Teams.length/\r.Teams.length <= 12
 start:0 <= r.Start/\r.Start <= 36000
 team:∀ t ∈ r.Teams,wOd r.Rules t
 bibs:(r.Teams.map (·.Bib)).Nodup
theorem wDm {n lo hi:Int} (h1:lo <= n) (h2:n <= hi):inB n lo hi=true:=by unfold inB;simp [h1,h2]
theorem wKd {l:List Int} {f:Int->Option Bool} {p:Int->Bool} (hf:∀ a,f a=some (p a)) (hn:l.length <= 9223372036854775807):wCq l f=some (l.all p):=by
 unfold wCq wBm wCE wCV
 have:=wFU (R:=Int) (l:=l) (f:=fun x=>(f x).bind fun x5=>some (!x5)) (p:=fun a=>!p a) (fun a _=>by rw [hf];rfl) hn id
 simp only [id] at this
 rw [this]
 simp only [hD,wFT]
 congr 1
 clear this hn
 induction l with
 | nil=>rfl
 | cons a l ih=>rw [kW,kX,<- ih];cases p a <;> simp
theorem wOe {l:List wAQ} {f:wAQ->Option Bool} {p:wAQ->Bool} (hf:∀ a ∈ l,f a=some (p a)) (hn:l.length <= 9223372036854775807):wBr l f=some (l.all p):=by
 unfold wBr wAn wAv wBK
 have:=wFU (R:=Int) (l:=l) (f:=fun x=>(f x).bind fun x5=>some (!x5)) (p:=fun a=>!p a) (fun a ha=>by rw [hf a ha];rfl) hn id
 simp only [id] at this
 rw [this]
 simp only [hD,wFT]
 congr 1
 clear this hn hf
 induction l with
 | nil=>rfl
 | cons a l ih=>rw [kW,kX,<- ih];cases p a <;> simp
theorem wLG {l:List wAJ} {f:wAJ->Option Bool} (hf:∀ a ∈ l,f a=some true) (hn:l.length <= 9223372036854775807):wBd l f=some true:=by
 unfold wBd wAt wAz wBO
 have:=wFU (R:=Int) (l:=l) (f:=fun x=>(f x).bind fun x5=>some (!x5)) (p:=fun _=>false) (fun a ha=>by rw [hf a ha];rfl) hn id
 simp only [id] at this
 rw [this]
 simp only [hD,wFT]
 simp
theorem wNb {p:wAL} (g:wEq p):wCu p=some 0:=by
 unfold wCu
 have h1:=g.n
 have h2:=g.each;have h3:=g.laps;have h4:=g.spare;have h5:=g.loop;have h6:=g.unused
 rw [wIP,hD,wDm (by omega) (by omega),if_pos rfl]
 have hc:wCf p.Classes=some true:=by
  unfold wCf
  rw [wKd (f:=wBc) (p:=fun n=>inB n 0 3) (fun a=>by unfold wBc;rw [wIP];rfl) (by omega),hD]
  exact congrArg some (kO.2 fun c hc=>wDm (g.cls c hc).1 (g.cls c hc).2)
 rw [hc,hD,if_pos rfl]
 unfold wEh
 rw [hD,wOe (p:=fun a=>match a.of p with | some x=>inB x a.lo a.hi | none=>true) (fun a ha=>by
  unfold wBx
  simp only [ny,List.not_mem_nil,or_false] at ha
  rcases ha with rfl | rfl | rfl | rfl | rfl <;> simp [wBy,wBz,wCA,wCB,wCC,wIP]) (by simp)]
 simp only [hD,kX,List.all_nil,Bool.and_true,wBy,wBz,wCA,wCB,wCC]
 rw [wDm h2.1 h2.2,wDm h3.1 h3.2,wDm h4.1 h4.2,wDm h5.1 h5.2,wDm h6.1 h6.2]
 rfl
theorem wNc {p:wAL} (gp:wEq p) {t:wAJ} (g:wOd p t):wBn p t=some true:=by
 unfold wBn
 have h1:=g.n;have h2:=g.legs;have h3:=gp.n;have h4:=gp.laps
 rw [wIP,hD,wDm (by omega) (by omega),if_pos rfl,if_neg (by omega)]
 rw [wEm (by omega) fun k hk=>?_]
 ·rfl
 ·have gl:=g.leg _ (wAs hk)
  have b1:=gl.le;have b2:=gl.bouts
  rw [wBB hk,hD,if_neg (by omega)]
  have hb:((gd t.Legs k).Bouts.length:Int)=max 0 (w64 (((gd t.Legs k).Loops.length:Int) - 1)):=by
   rw [wAa (by omega) (by omega)]
   omega
  rw [wAa (x:=(t.Legs.length:Int) - 1) (by omega) (by omega)]
  by_cases hl:(k:Int) < (t.Legs.length:Int) - 1
  ·rw [if_pos hl,if_neg (by have:=g.full k (by omega);omega),if_pos hb]
  ·rw [if_neg hl,if_pos hb]
theorem wKe {E:Type} {f:Unit->(wAJ × wAR)->Option (Unit ⊕ E)} {r:wAS} (hn:r.Teams.length <= 1000) (hl:∀ t ∈ r.Teams,t.Legs.length <= 1000) (h:∀ t ∈ r.Teams,∀ l ∈ t.Legs,f () (t,l)=some (.inl ())):wBo f () r=some (.inl ()):=by
 unfold wBo
 rw [wEm (by omega) fun k hk=>?_]
 ·rfl
 ·have ht:=wAs hk
  rw [wBB hk,hD,wEm (by have:=hl _ ht;omega) fun j hj=>?_]
  ·rfl
  ·rw [wBB hj,hD,h _ ht _ (wAs hj)]
   rfl
theorem wNd {l:List (Int × Bool)} {x:Int} {v:Bool} (h:∀ q ∈ l,q.1 ≠ x):wFX l x v=l ++ [(x,v)]:=by
 induction l with
 | nil=>rfl
 | cons a l ih =>
  obtain ⟨y,u⟩:=a
  have:=h (y,u) (by simp)
  rw [wFX,if_neg (fun e=>this e.symm),ih fun q hq=>h q (by simp [hq])]
  rfl
theorem wLh {l:List Int} (h:l.Nodup) {k:Nat} (hk:k < l.length):∀ a ∈ l.take k,a ≠ gd l k:=by
 intro a ha e
 rw [<- nk k l,wGh hk,kK] at h
 exact h.2.2 a ha _ (kb ..) e
theorem wNe {r:wAS} (g:wIS r):wEQ r=some 0:=by
 unfold wEQ
 have h1:=g.n;have h2:=g.start
 have hl:∀ t ∈ r.Teams,t.Legs.length <= 1000:=fun t ht=>by have:=(g.team t ht).legs;have:=g.rules.n;omega
 rw [wNb g.rules,hD,if_pos rfl,wIP,hD,wDm (by omega) (by omega),if_pos rfl,wLG (fun t ht=>wNc g.rules (g.team t ht)) (by omega),hD,if_pos rfl,
  wIP,hD,wDm h2.1 h2.2,if_pos rfl,wLG (fun t ht=>?_) (by omega),hD,if_pos rfl]
 ·unfold wCc
  rw [hD,wKe (by omega) hl fun t ht l hm=>?_,hD]
  ·simp only [hD]
   rw [wKe (by omega) hl fun t ht l hm=>?_,hD]
   ·simp only [hD]
    rw [wKe (by omega) hl fun t ht l hm=>?_,hD]
    ·simp only
     have:=wDU (S:=List (Int × Bool)) (n:=r.Teams.length) (body:=fun k640 l637=>(idx r.Teams (↑k640:Int)).bind fun x664=>some (wFX l637 x664.Bib true)) (fun k=>(r.Teams.take k).map fun t=>(t.Bib,true)) (s0:=[]) rfl (by omega) fun k hk=>by
      rw [wBB hk,hD,wDE hk,nP,wNd fun q hq=>?_]
      ·rfl
      ·obtain ⟨t,ht,rfl⟩:=nR.1 hq
       have:=wLh g.bibs (k:=k) (by simpa using hk) t.Bib (by rw [<- kY];exact nR.2 ⟨t,ht,rfl⟩)
       rw [wGL _ hk] at this
       exact this
     rw [this,hD,if_neg (by simp)]
    ·have gl:=(g.team t ht).leg l hm
     have hb:=gl.bouts;have hle:=gl.le;have:=g.rules.laps
     simp only
     rw [wEm (by omega) fun k hk=>?_]
     ·rfl
     ·rw [wBB hk,hD,wJM (gl.ok _ (wAs hk))]
      rfl
   ·have gl:=(g.team t ht).leg l hm
    have:=gl.skier;have:=(g.team t ht).n
    simp only
    rw [wIP,hD,wAa (by omega) (by omega),wDm (by omega) (by omega),if_pos rfl]
  ·have gl:=(g.team t ht).leg l hm
   have hle:=gl.le;have:=g.rules.laps
   simp only
   rw [wKd (f:=wCg) (p:=fun n=>inB n 1 9000) (fun a=>by unfold wCg;rw [wIP];rfl) (by omega),hD,if_pos]
   exact kO.2 fun n hn=>wDm (gl.loops n hn).1 (gl.loops n hn).2
 ·have gt:=g.team t ht
  have:=gt.n
  unfold wDJ
  rw [wIP,hD,wDm gt.bib.1 gt.bib.2,if_pos rfl]
  unfold wCf
  rw [wKd (f:=wBc) (p:=fun n=>inB n 0 3) (fun a=>by unfold wBc;rw [wIP];rfl) (by omega),hD,hD]
  exact congrArg some (kO.2 fun c hc=>wDm (gt.cls c hc).1 (gt.cls c hc).2)
def bc (p:wAL) (b:List Bool):Int:=((b.length:Int) - 5) * p.Spare + (5 - (wFu b:Int)) * p.Loop
def tAt (p:wAL) (l:wAR) (x:Int):Nat->Int
 | 0=>x
 | k + 1=>tAt p l x k + gd l.Loops k + if 0 < k then bc p (gd l.Bouts (k - 1)) else 0
def wLi (p:wAL) (l:wAR) (x:Int):List Int:=(nM l.Loops.length).map fun k=>tAt p l x (k + 1)
def wJP (p:wAL) (l:wAR) (x:Int):Int:=tAt p l x l.Loops.length
def wHT (p:wAL):List wAR->Int->Int
 | [],x=>x
 | l :: r,x=>wHT p r (wJP p l x)
def wEY (p:wAL):List wAR->Int->List Int
 | [],_=>[]
 | l :: r,x=>wLi p l x ++ wEY p r (wJP p l x)
def wNO (p:wAL):List wAR->Int->List Int
 | [],_=>[]
 | l :: r,x=>if (l.Loops.length:Int)=p.Laps then wJP p l x :: wNO p r (wJP p l x) else wNO p r (wJP p l x)
theorem wLH {p:wAL} (g:wEq p) {b:List Bool} (h:okB b):0 <= ((b.length:Int) - 5) * p.Spare/\((b.length:Int) - 5) * p.Spare <= 1800/\0 <= (5 - (wFu b:Int)) * p.Loop/\(5 - (wFu b:Int)) * p.Loop <= 3000:=by
 obtain ⟨h1,h2,_⟩:=h
 have h3:=wLF b
 have a1:=g.spare;have a2:=g.loop
 refine ⟨nr (by omega) a1.1,?_,nr (by omega) a2.1,?_⟩
 ·exact Int.le_trans (ns (show (b.length:Int) - 5 <= 3 by omega) a1.2 a1.1 (by omega)) (by omega)
 ·exact Int.le_trans (ns (show 5 - (wFu b:Int) <= 5 by omega) a2.2 a2.1 (by omega)) (by omega)
theorem wLI {p:wAL} (gp:wEq p) {t:wAJ} {l:wAR} (g:wHS p t l) (x:Int) {k:Nat} (hk:k < l.Loops.length):tAt p l x k + 1 <= tAt p l x (k + 1)/\tAt p l x (k + 1) <= tAt p l x k + 13800:=by
 have h1:=g.loops _ (wAs hk)
 rw [tAt]
 by_cases h:0 < k
 ·have hb:=g.bouts
  have:=wLH gp (g.ok _ (wAs (k:=k - 1) (by omega)))
  rw [if_pos h]
  unfold bc
  omega
 ·rw [if_neg h];omega
theorem wIT {p:wAL} (gp:wEq p) {t:wAJ} {l:wAR} (g:wHS p t l) (x:Int):∀ k,k <= l.Loops.length->x + k <= tAt p l x k/\tAt p l x k <= x + 13800 * k
 | 0,_=>by simp [tAt]
 | k + 1,hk=>by
  have:=wLI gp g x (k:=k) (by omega)
  have:=wIT gp g x k (by omega)
  omega
theorem wIt {p:wAL} (gp:wEq p) {t:wAJ} {l:wAR} (g:wHS p t l) (x:Int):x <= wJP p l x/\wJP p l x <= x + 69000:=by
 have:=wIT gp g x l.Loops.length (kH _)
 have:=g.le;have:=gp.laps
 unfold wJP
 omega
theorem wOf {p:wAL} (gp:wEq p) {t:wAJ} {l:wAR} (g:wHS p t l) {x:Int} (hx:0 <= x/\x <= 1000000) {k:Nat} (hk:k < l.Loops.length) :
  (0 < k->idx l.Bouts (w64 ((k:Int) - 1))=some (gd l.Bouts (k - 1))/\okB (gd l.Bouts (k - 1)) /\
   w64 ((w64 (tAt p l x k + gd l.Loops k)) + (w64 ((w64 ((((gd l.Bouts (k - 1)).length:Int) - 5) * p.Spare)) + (w64 ((5 - (wFu (gd l.Bouts (k - 1)):Int)) * p.Loop)))))=tAt p l x (k + 1)) /\
  (¬ 0 < k->w64 (tAt p l x k + gd l.Loops k)=tAt p l x (k + 1)):=by
 have h1:=g.loops _ (wAs hk)
 have h2:=wIT gp g x k (by omega)
 have h3:=g.le;have h4:=gp.laps;have hb:=g.bouts
 refine ⟨fun h=>?_,fun h=>?_⟩
 ·have ho:=g.ok _ (wAs (k:=k - 1) (by omega))
  have:=wLH gp ho
  refine ⟨?_,ho,?_⟩
  ·rw [wAa (by omega) (by omega),show (k:Int) - 1=((k - 1:Nat):Int) by omega]
   exact wBB (by omega)
  ·rw [tAt,if_pos h]
   unfold bc
   rw [wAa (x:=tAt p l x k + gd l.Loops k) (by omega) (by omega),wAa (x:=(((gd l.Bouts (k - 1)).length:Int) - 5) * p.Spare) (by omega) (by omega),wAa (x:=(5 - (wFu (gd l.Bouts (k - 1)):Int)) * p.Loop) (by omega) (by omega),wAa (x:=(((gd l.Bouts (k - 1)).length:Int) - 5) * p.Spare + (5 - (wFu (gd l.Bouts (k - 1)):Int)) * p.Loop) (by omega) (by omega),wAa (by omega) (by omega)]
 ·rw [tAt,if_neg h,wAa (by omega) (by omega),Int.add_zero]
theorem wIU (p:wAL) (l:wAR) (x:Int) (k:Nat):(nM (k + 1)).map (fun i=>tAt p l x (i + 1))=(nM k).map (fun i=>tAt p l x (i + 1)) ++ [tAt p l x (k + 1)]:=by
 rw [nm,nP]
 rfl
theorem wHU (p:wAL) (a:wAR):∀ (l:List wAR) (x:Int),wEY p (l ++ [a]) x=wEY p l x ++ wLi p a (wHT p l x)/\wHT p (l ++ [a]) x=wJP p a (wHT p l x)
 | [],x=>by simp [wEY,wHT]
 | b :: l,x=>by
  have:=wHU p a l (wJP p b x)
  exact ⟨by rw [nW,wEY,wEY,this.1,nV];rfl,this.2⟩
theorem wIV {p:wAL} (gp:wEq p) {t:wAJ}:∀ (l:List wAR) (x:Int),(∀ a ∈ l,wHS p t a)->x <= wHT p l x/\wHT p l x <= x + 69000 * (l.length:Int)
 | [],x,_=>by simp [wHT]
 | a :: l,x,h=>by
  have h1:=wIt gp (h a (by simp)) x
  have h2:=wIV gp l (wJP p a x) fun b hb=>h b (by simp [hb])
  rw [wHT]
  simp only [nB]
  omega
def after (r:wAS):List (List Int):=r.Teams.map fun t=>wEY r.Rules t.Legs r.Start
theorem wGM {p:wAL} (gp:wEq p) {t:wAJ}:∀ (l:List wAR) (x:Int),(∀ a ∈ l,wHS p t a)->(wEY p l x).length <= 5 * l.length
 | [],x,_=>by simp [wEY]
 | a :: l,x,h=>by
  have h1:=(h a (by simp)).le
  have h2:=wGM gp l (wJP p a x) fun b hb=>h b (by simp [hb])
  have:=gp.laps
  rw [wEY,nG]
  simp only [wLi,nD,kL,nB]
  omega
theorem wJQ {r:wAS} (g:wIS r):wDX r=some (some ⟨r,after r⟩,0):=by
 unfold wDX
 rw [wNe g,hD,if_pos rfl]
 have hn:=g.n;have hs:=g.start
 rw [wDU (S:=List (List Int)) (n:=r.Teams.length) (fun k=>(r.Teams.take k).map fun t=>wEY r.Rules t.Legs r.Start) (s0:=[]) rfl (by omega) fun k hk=>?_]
 ·rw [hD,nH]
  rfl
 ·have gt:=g.team _ (wAs hk)
  have hleg:=gt.legs;have hc:=g.rules.n
  rw [wBB hk,hD]
  rw [wDU (S:=Int × List Int) (n:=(gd r.Teams k).Legs.length) (fun j=>(wHT r.Rules ((gd r.Teams k).Legs.take j) r.Start,wEY r.Rules ((gd r.Teams k).Legs.take j) r.Start)) (s0:=(r.Start,[])) rfl (by omega) fun j hj=>?_]
  ·simp only [hD,nH]
   have hlen:=wGM g.rules (gd r.Teams k).Legs r.Start gt.leg
   rw [wDV (by simp;omega),hD,wDE hk,nP]
   rfl
  ·have gl:=gt.leg _ (wAs hj)
   have hE:=wIV g.rules ((gd r.Teams k).Legs.take j) r.Start fun a ha=>gt.leg a (nb ha)
   have hL:=wGM g.rules ((gd r.Teams k).Legs.take j) r.Start fun a ha=>gt.leg a (nb ha)
   rw [nX] at hE hL
   have hx:0 <= wHT r.Rules ((gd r.Teams k).Legs.take j) r.Start/\wHT r.Rules ((gd r.Teams k).Legs.take j) r.Start <= 1000000:=by omega
   generalize hX:wHT r.Rules ((gd r.Teams k).Legs.take j) r.Start=X at hx
   generalize hY:wEY r.Rules ((gd r.Teams k).Legs.take j) r.Start=Y at hL
   have hlap:=g.rules.laps;have hle:=gl.le
   simp only
   rw [wBB hj,hD]
   rw [wDU (S:=Int × List Int) (n:=(gd (gd r.Teams k).Legs j).Loops.length) (fun i=>(tAt r.Rules (gd (gd r.Teams k).Legs j) X i,Y ++ (nM i).map fun q=>tAt r.Rules (gd (gd r.Teams k).Legs j) X (q + 1))) (s0:=(X,Y)) (by simp [tAt]) (by omega) fun i hi=>?_]
   ·simp only [hD]
    rw [wDE hj,(wHU _ _ _ _).1,(wHU _ _ _ _).2,hX,hY]
    rfl
   ·obtain ⟨l1,l2⟩:=wOf g.rules gl hx hi
    simp only
    rw [wBB hi,hD]
    by_cases h0:0 < i
    ·obtain ⟨e1,e2,e3⟩:=l1 h0
     rw [if_pos (by omega),e1,hD,wJM e2]
     simp only [hD]
     rw [e3,wDV (by simp;omega),hD,wIU,nV]
    ·rw [if_neg (by omega),l2 h0,wDV (by simp;omega),hD,wIU,nV]
def wEp (r:wAS):wAT:=⟨(r.Rules.Classes.length:Int) * r.Rules.Laps,r.Teams.map (·.Bib),after r⟩
theorem wOg {r:wAS} (g:wIS r):wBs ⟨r,after r⟩=some (wEp r):=by
 unfold wBs
 have hn:=g.n
 simp only
 rw [wDU (S:=List Int × List (List Int)) (n:=r.Teams.length) (fun k=>((r.Teams.take k).map (·.Bib),(r.Teams.take k).map fun t=>wEY r.Rules t.Legs r.Start)) (s0:=([],[])) rfl (by omega) fun k hk=>?_]
 ·simp only [hD,nH]
  have h1:=g.rules.n;have h2:=g.rules.laps
  have h3:0 <= (r.Rules.Classes.length:Int) * r.Rules.Laps:=nr (by omega) (by omega)
  have h4:(r.Rules.Classes.length:Int) * r.Rules.Laps <= 4 * 5:=ns (by omega) h2.2 (by omega) (by omega)
  rw [wAa (by omega) (by omega)]
  rfl
 ·have gt:=g.team _ (wAs hk)
  have hlen:=wGM g.rules (gd r.Teams k).Legs r.Start gt.leg
  have hc:=g.rules.n;have hleg:=gt.legs
  simp only
  rw [wBB hk,hD,wDV (by simp;omega),hD]
  unfold after
  rw [wBB (by simpa using hk),hD,wGL _ hk]
  unfold wCk
  rw [wDV (by simp;omega)]
  simp only [hD,kT]
  rw [wDV (by simp;omega),hD,wDE hk,nP,nP]
  rfl
end Go.Proofs.YtlmekamhphnmjaaGreat
namespace Go.Proofs.YtlmekamhphnmjaaGreat
open Go.KL
theorem wHr {p:wAL} (gp:wEq p) {t:wAJ} {l:wAR} (g:wHS p t l) (x:Int) {i:Nat}:∀ (j:Nat),i < j->j <= l.Loops.length->tAt p l x i < tAt p l x j
 | 0,h,_=>by omega
 | j + 1,h,hj=>by
  have h1:=wLI gp g x (k:=j) (by omega)
  rcases kB i j with hi | hi
  ·have:=wHr gp g x j hi (by omega)
   omega
  ·have:i=j:=by omega
   subst this
   omega
theorem wOh {p:wAL} (gp:wEq p) {t:wAJ} {l:wAR} (g:wHS p t l) (x:Int):(wLi p l x).Pairwise (· < ·)/\∀ a ∈ wLi p l x,x < a/\a <= wJP p l x:=by
 unfold wLi
 refine ⟨?_,fun a ha=>?_⟩
 ·rw [nS]
  refine List.Pairwise.imp_of_mem ?_ kU
  intro i j hi hj hij
  exact wHr gp g x _ (by omega) (by have:=List.mem_range.1 hj;omega)
 ·obtain ⟨i,hi,rfl⟩:=nR.1 ha
  have hi:=List.mem_range.1 hi
  have:=wHr gp g x (i:=0) (i + 1) (by omega) (by omega)
  refine ⟨this,?_⟩
  unfold wJP
  rcases kB (i + 1) l.Loops.length with h | h
  ·have:=wHr gp g x (i:=i + 1) l.Loops.length h (kH _)
   omega
  ·have:i + 1=l.Loops.length:=by omega
   rw [this]
   exact nU _
theorem wJR {p:wAL} (gp:wEq p) {t:wAJ}:∀ (l:List wAR) (x:Int),(∀ a ∈ l,wHS p t a)->(wEY p l x).Pairwise (· < ·)/\∀ a ∈ wEY p l x,x < a/\a <= x + 69000 * (l.length:Int)
 | [],x,_=>by simp [wEY]
 | b :: l,x,h=>by
  obtain ⟨h1,h2⟩:=wOh gp (h b (by simp)) x
  obtain ⟨h3,h4⟩:=wJR gp l (wJP p b x) fun c hc=>h c (by simp [hc])
  have h5:=wIt gp (h b (by simp)) x
  rw [wEY]
  refine ⟨nO.2 ⟨h1,h3,fun a ha c hc=>?_⟩,fun a ha=>?_⟩
  ·have:=(h2 a ha).2
   have:=(h4 c hc).1
   omega
  ·simp only [nB]
   rcases nT.1 ha with ha | ha
   ·have:=h2 a ha
    omega
   ·have:=h4 a ha
    omega
theorem wIu {p:wAL} {L:Nat} (hL:p.Laps=L) {t:wAJ}:∀ (l:List wAR) (x:Int),(∀ a ∈ l,wHS p t a)->(wEY p l x).length <= l.length * L
 | [],x,_=>by simp [wEY]
 | a :: l,x,h=>by
  have h1:=(h a (by simp)).le
  have h2:=wIu hL l (wJP p a x) fun b hb=>h b (by simp [hb])
  rw [wEY,nG,nB,Nat.add_mul]
  simp only [wLi,nD,kL]
  omega
end Go.Proofs.YtlmekamhphnmjaaGreat
namespace Go.Proofs.YtlmekamhphnmjaaGreat
open Go.KL
def cn (l:List Int) (t:Int):Nat:=l.countP fun x=>decide (x <= t)
theorem wLj (l:List Int) (t:Int):cn l t <= l.length:=List.countP_le_length
theorem wOi (l:List Int) {s t:Int} (h:s <= t):cn l s <= cn l t:=List.countP_mono_left fun x _ hx=>by simp at hx ⊢;omega
theorem wMn:∀ {l:List Int} {t:Int} {k:Nat},l.Pairwise (· < ·)->k < l.length->(k < cn l t ↔ gd l k <= t)
 | [],t,k,_,hk=>by simp at hk
 | a :: l,t,0,h,_=>by
  show 0 < cn (a :: l) t ↔ a <= t
  unfold cn
  rw [nl]
  by_cases c:a <= t
  ·simp [c]
  ·simp only [c,decide_false,kI,if_false,Nat.add_zero,iff_false]
   have:l.countP (fun x=>decide (x <= t))=0:=kD.2 fun x hx=>by
    have:=(nh.1 h).1 x hx
    simp;omega
   omega
 | a :: l,t,k + 1,h,hk=>by
  show k + 1 < cn (a :: l) t ↔ gd l k <= t
  have hk':k < l.length:=by simpa using hk
  have ih:=wMn (t:=t) (nh.1 h).2 hk'
  rw [<- ih]
  unfold cn
  rw [nl]
  by_cases c:a <= t
  ·simp [c]
  ·have h1:l.countP (fun x=>decide (x <= t))=0:=kD.2 fun x hx=>by
    have:=(nh.1 h).1 x hx
    simp;omega
   simp [c,h1]
theorem wPc {l:List Int} (h:l.Pairwise (· < ·)) {k:Nat} (hk:k < l.length):cn l (gd l k)=k + 1:=by
 have h1:=(wMn (t:=gd l k) h hk).2 (nU _)
 have h2:=wLj l (gd l k)
 by_cases e:k + 1=l.length
 ·omega
 ·have h3:=mt (wMn (t:=gd l k) (k:=k + 1) h (by omega)).1
  have h4:gd l k < gd l (k + 1):=by
   have:=nA.1 h k (k + 1) hk (by omega) (by omega)
   rwa [<- wDb hk,<- wDb (by omega)] at this
  have:=h3 (by omega)
  omega
theorem wPd {l:List Int} (h:l.Pairwise (· < ·)) {t:Int} (ht:t ∈ l):0 < cn l t/\cn l t <= l.length/\gd l (cn l t - 1)=t:=by
 obtain ⟨k,hk,e⟩:=nE ht
 have e':gd l k=t:=by rw [wDb hk,e]
 have:=wPc h hk
 rw [e'] at this
 refine ⟨by omega,wLj _ _,?_⟩
 rw [this];exact e'
theorem wOj {l:List Int} (h:l.Pairwise (· < ·)) {s t:Int} (hst:s < t) (hno:∀ x ∈ l,s < x->t <= x) :
  cn l t=if cn l s < l.length/\gd l (cn l s)=t then cn l s + 1 else cn l s:=by
 have h0:=wLj l s
 have hm:=wOi l (show s <= t by omega)
 by_cases hl:cn l s < l.length
 ·have h1:s < gd l (cn l s):=by
   have:=mt (wMn (t:=s) h hl).2 (by omega)
   omega
  have h2:=hno _ (wAs hl) h1
  by_cases e:gd l (cn l s)=t
  ·rw [if_pos ⟨hl,e⟩]
   have:=wPc h hl
   rw [e] at this
   exact this
  ·rw [if_neg (fun c=>e c.2)]
   have:=mt (wMn (t:=t) h hl).1 (by omega)
   omega
 ·rw [if_neg (fun c=>hl c.1)]
  have:=wLj l t
  omega
def Lp (p:wAK) (d time:Int) (j:Nat):Prop:=j < p.done.length/\gd p.out j=false/\d + 2 <= gd p.done j/\gd (gd p.Race.Times j) ((gd p.done j) - 1).toNat=time
structure wJx (p:wAK):Prop where
 n:p.done.length <= 60
 o:p.out.length=p.done.length
 b:p.Race.Bibs.length=p.done.length
 t:p.Race.Times.length=p.done.length
 d0:∀ i,i < p.done.length->0 <= gd p.done i/\gd p.done i <= (gd p.Race.Times i).length
 len:∀ l ∈ p.Race.Times,l.length <= 1000
def ByP (p:wAK) (d time:Int) (n:Nat) (x:Int):Prop :=
 (x=-1/\∀ j,j < n->¬ Lp p d time j) \/ ∃ j:Nat,x=j/\j < n/\Lp p d time j/\∀ i,i < n->Lp p d time i->gd p.Race.Bibs j <= gd p.Race.Bibs i
theorem wEO {S:Type} {body:Nat->S->Option S} {n:Nat} {s0:S} (I:Nat->S->Prop) (hn:n <= 1000) (h0:I 0 s0) (h:∀ i s,i < n->I i s->∃ s',body i s=some s'/\I (i + 1) s'):∃ s,wCM 0 (n:Int) body s0=some s/\I n s:=by
 rw [wGO (by omega)]
 have:=wIO (body:=body) I n 0 s0 h0 fun i s _ h2 h3=>h i s (by omega) h3
 rwa [kP] at this
theorem wPe {p:wAK} (G:wJx p) (i d time:Int) (hd0:0 <= d) (hd1:d <= 1000):∃ x,wBZ p i d time=some x/\ByP p d time p.done.length x:=by
 unfold wBZ
 have hn:=G.n
 obtain ⟨x,e,hx⟩:=wEO (body:=fun (k10:Nat) (x9:Int) =>
  ((idx p.done (↑k10:Int)).bind fun x35 =>
  (idx p.out (↑k10:Int)).bind fun x46 =>
  if x46=true then
   some x9
  else
   if (w64 (d + 2)) <= x35 then
    (idx p.Race.Times (↑k10:Int)).bind fun x60 =>
    (idx x60 (w64 (x35 - 1))).bind fun x73 =>
    if x73=time then
     if x9 < 0 then
      some (↑k10:Int)
     else
      (idx p.Race.Bibs (↑k10:Int)).bind fun x92 =>
      (idx p.Race.Bibs x9).bind fun x100 =>
      if x92 < x100 then
       some (↑k10:Int)
      else
       some x9
    else
     some x9
   else
    some x9).bind fun x34 =>
  some x34) (n:=p.done.length) (s0:=(-1:Int)) (fun k x=>ByP p d time k x) (by omega) (.inl ⟨rfl,fun j hj=>by omega⟩) (fun k x hk hx=>by
   have hd:=G.d0 k hk
   have ho:=G.o
   have hb:=G.b
   have ht:=G.t
   have hll:=G.len _ (wAs (l:=p.Race.Times) (k:=k) (by omega))
   simp only [wOc]
   rw [wBB hk,hD,wBB (by omega),hD,wAa (by omega) (by omega)]
   have skip:¬ Lp p d time k->ByP p d time (k + 1) x:=fun hno=>by
    rcases hx with ⟨h1,h2⟩ | ⟨j,h1,h2,h3,h4⟩
    ·exact .inl ⟨h1,fun j hj=>by
      by_cases e:j=k
      ·exact e ▸ hno
      ·exact h2 j (by omega)⟩
    ·exact .inr ⟨j,h1,by omega,h3,fun i hi hL=>by
      by_cases e:i=k
      ·exact absurd (e ▸ hL) hno
      ·exact h4 i (by omega) hL⟩
   by_cases c1:gd p.out k=true
   ·rw [if_pos c1]
    exact ⟨x,rfl,skip fun h=>by have:=h.2.1;rw [c1] at this;exact nz this⟩
   rw [if_neg c1]
   by_cases c2:d + 2 <= gd p.done k
   ·have e1:(gd p.done k) - 1=((((gd p.done k) - 1).toNat:Nat):Int):=by omega
    rw [if_pos c2,wBB (by omega),hD,wAa (by omega) (by omega),e1,wBB (by omega),hD]
    by_cases c3:gd (gd p.Race.Times k) ((gd p.done k) - 1).toNat=time
    ·have hL:Lp p d time k:=⟨hk,by simpa using c1,c2,c3⟩
     rw [if_pos c3]
     rcases hx with ⟨h1,h2⟩ | ⟨j,h1,h2,h3,h4⟩
     ·rw [if_pos (by omega)]
      exact ⟨_,rfl,.inr ⟨k,rfl,by omega,hL,fun i hi hL'=>by
       by_cases e:i=k
       ·subst e;exact nU _
       ·exact absurd hL' (h2 i (by omega))⟩⟩
     ·subst h1
      rw [if_neg (by omega),wBB (by omega),hD,wBB (by omega),hD]
      by_cases c4:gd p.Race.Bibs k < gd p.Race.Bibs j
      ·rw [if_pos c4]
       exact ⟨_,rfl,.inr ⟨k,rfl,by omega,hL,fun i hi hL'=>by
        by_cases e:i=k
        ·subst e;exact nU _
        ·have:=h4 i (by omega) hL'
         omega⟩⟩
      ·rw [if_neg c4]
       exact ⟨_,rfl,.inr ⟨j,rfl,by omega,h3,fun i hi hL'=>by
        by_cases e:i=k
        ·subst e;omega
        ·exact h4 i (by omega) hL'⟩⟩
    ·rw [if_neg c3]
     exact ⟨x,rfl,skip fun h=>c3 h.2.2.2⟩
   ·rw [if_neg c2]
    exact ⟨x,rfl,skip fun h=>c2 h.2.2.1⟩)
 rw [e,hD]
 exact ⟨x,rfl,hx⟩
end Go.Proofs.YtlmekamhphnmjaaGreat
namespace Go.Proofs.YtlmekamhphnmjaaGreat
open Go.KL
def nx (p:wAK) (t:Int) (i:Nat):Int:=if gd p.out i=false/\gd p.done i < (gd p.Race.Times i).length/\gd (gd p.Race.Times i) (gd p.done i).toNat=t then gd p.done i + 1 else gd p.done i
def st1 (p0:wAK) (p1:Int):Nat->List Int->Option (List Int):=fun k10 l9 =>
  (idx p0.Race.Times (↑k10:Int)).bind fun x33 =>
  (chk (↑k10:Int) l9.length).bind fun _ =>
  (chk (↑k10:Int) p0.out.length).bind fun _ =>
  if (gd p0.out k10)=true then
   some l9
  else
   if (gd l9 k10) < (↑x33.length:Int) then
    (idx x33 (gd l9 k10)).bind fun x62 =>
    if x62=p1 then
     some (hM l9 k10 (w64 ((gd l9 k10) + 1)))
    else
     some l9
   else
    some l9
def st2 (p0:wAK) (p1:Int) (y15:List Int):Nat->List Int->Option (List Int):=fun k121 l117 =>
  (chk (↑k121:Int) y15.length).bind fun _ =>
  (chk (↑k121:Int) p0.out.length).bind fun _ =>
  if (gd p0.out k121)=true then
   some l117
  else
   (wBZ (⟨p0.Race,y15,p0.out⟩:wAK) (↑k121:Int) (gd y15 k121) p1).bind fun x193 =>
   if 0 <= x193 then
    (app 8 l117 [(↑k121:Int)]).bind fun x222 =>
    some x222
   else
    some l117
theorem wKg (p0:wAK) (p1:Int):wBa p0 p1=(wCM 0 (↑p0.Race.Times.length:Int) (st1 p0 p1) p0.done).bind fun y =>
 (wCM 0 (↑y.length:Int) (st2 p0 p1 y) []).bind fun z=>some (z,(⟨p0.Race,y,p0.out⟩:wAK)):=rfl
theorem wPf {p:wAK} (G:wJx p) (t:Int):∃ y,wCM 0 (↑p.Race.Times.length:Int) (st1 p t) p.done=some y/\y.length=p.done.length/\∀ i,i < p.done.length->gd y i=nx p t i:=by
 have hn:=G.n
 have ho:=G.o
 have ht:=G.t
 obtain ⟨y,e,h1,h2⟩:=wEO (body:=st1 p t) (n:=p.Race.Times.length) (s0:=p.done) (fun k y=>y.length=p.done.length/\∀ i,i < p.done.length->gd y i=if i < k then nx p t i else gd p.done i) (by omega) ⟨rfl,fun i _=>by rw [if_neg (by omega)]⟩ (fun k y hk ⟨h1,h2⟩=>by
  have hk':k < p.done.length:=by omega
  have hd:=G.d0 k hk'
  have hll:=G.len _ (wAs (l:=p.Race.Times) (k:=k) hk)
  have hyk:gd y k=gd p.done k:=by rw [h2 k hk',if_neg (by omega)]
  have keep:nx p t k=gd p.done k->∀ i,i < p.done.length->gd y i=if i < k + 1 then nx p t i else gd p.done i:=fun e i hi=>by
   rw [h2 i hi]
   by_cases c:i=k
   ·subst c
    rw [if_neg (by omega),if_pos (by omega),e]
   ·by_cases c2:i < k
    ·rw [if_pos c2,if_pos (by omega)]
    ·rw [if_neg c2,if_neg (by omega)]
  unfold st1
  rw [wBB hk,hD,wDy (by omega) (by omega),hD,wDy (by omega) (by omega),hD,hyk]
  by_cases c1:gd p.out k=true
  ·rw [if_pos c1]
   exact ⟨y,rfl,h1,keep (if_neg (fun h=>by rw [c1] at h;exact nz h.1))⟩
  have c1':gd p.out k=false:=by simpa using c1
  rw [if_neg c1]
  by_cases c2:gd p.done k < ((gd p.Race.Times k).length:Int)
  ·have e1:idx (gd p.Race.Times k) (gd p.done k)=some (gd (gd p.Race.Times k) (gd p.done k).toNat):=by
    unfold idx
    rw [if_pos hd.1,wBY (by omega)]
   rw [if_pos c2,e1,hD]
   by_cases c3:gd (gd p.Race.Times k) (gd p.done k).toNat=t
   ·have en:nx p t k=gd p.done k + 1:=if_pos ⟨c1',c2,c3⟩
    rw [if_pos c3,wAa (by omega) (by omega)]
    refine ⟨_,rfl,by simpa using h1,fun i hi=>?_⟩
    rw [wOH (by omega) (by omega)]
    by_cases c:i=k
    ·subst c
     rw [if_pos rfl,if_pos (by omega),en]
    ·rw [if_neg c,h2 i hi]
     by_cases c4:i < k
     ·rw [if_pos c4,if_pos (by omega)]
     ·rw [if_neg c4,if_neg (by omega)]
   ·rw [if_neg c3]
    exact ⟨y,rfl,h1,keep (if_neg (fun h=>c3 h.2.2))⟩
  ·rw [if_neg c2]
   exact ⟨y,rfl,h1,keep (if_neg (fun h=>c2 h.2.1))⟩)
 exact ⟨y,e,h1,fun i hi=>by rw [h2 i hi,if_pos (by omega)]⟩
theorem nx_le {p:wAK} (G:wJx p) (t:Int) {i:Nat} (hi:i < p.done.length):0 <= nx p t i/\nx p t i <= (gd p.Race.Times i).length:=by
 have:=G.d0 i hi
 unfold nx
 split <;> omega
theorem wOk {p:wAK} (G:wJx p) (t:Int):∃ z y,wBa p t=some (z,(⟨p.Race,y,p.out⟩:wAK))/\y.length=p.done.length/\(∀ i,i < p.done.length->gd y i=nx p t i)/\wJx (⟨p.Race,y,p.out⟩:wAK) /\
  z.Pairwise (· < ·)/\∀ x,x ∈ z ↔ ∃ i:Nat,x=i/\i < p.done.length/\gd p.out i=false/\∃ j,Lp (⟨p.Race,y,p.out⟩:wAK) (gd y i) t j:=by
 rw [wKg]
 have hn:=G.n
 obtain ⟨y,e,h1,h2⟩:=wPf G t
 rw [e,hD]
 have G':wJx (⟨p.Race,y,p.out⟩:wAK):=⟨by show y.length <= 60;omega,by show p.out.length=y.length;rw [h1];exact G.o,by show p.Race.Bibs.length=y.length;rw [h1];exact G.b,by show p.Race.Times.length=y.length;rw [h1];exact G.t,fun i hi=>by
  have hi':i < p.done.length:=by rw [<- h1];exact hi
  show 0 <= gd y i/\gd y i <= _
  rw [h2 i hi']
  exact nx_le G t hi',G.len⟩
 obtain ⟨z,ez,z1,z2⟩:=wEO (body:=st2 p t y) (n:=y.length) (s0:=[]) (fun k z=>z.Pairwise (· < ·)/\∀ x,x ∈ z ↔ ∃ i:Nat,x=i/\i < k/\gd p.out i=false/\∃ j,Lp (⟨p.Race,y,p.out⟩:wAK) (gd y i) t j) (by omega) ⟨kM,fun x=>by simp⟩ (fun k z hk ⟨z1,z2⟩=>by
  have hk':k < p.done.length:=by omega
  have ho:=G.o
  have hyk:=G'.d0 k hk
  have hll:=G.len _ (wAs (l:=p.Race.Times) (k:=k) (by have:=G.t;omega))
  have hzl:z.length <= k:=by
   have hsub:∀ x ∈ z,0 <= x/\x < k:=fun x hx=>by
    obtain ⟨i,rfl,hi,_⟩:=(z2 x).1 hx
    omega
   rcases kB k z.length with c | c
   ·exfalso
    have key:∀ (m:Nat),m < z.length->(m:Int) <= gd z m:=by
     intro m
     induction m with
     | zero=>intro hm;exact (hsub _ (wAs hm)).1
     | succ m ih =>
      intro hm
      have h3:=ih (by omega)
      have h4:=nA.1 z1 m (m + 1) (by omega) hm (by omega)
      rw [<- wDb (by omega),<- wDb hm] at h4
      omega
    have h5:=key k c
    have h6:=(hsub _ (wAs c)).2
    omega
   ·exact c
  have skip:¬ (gd p.out k=false/\∃ j,Lp (⟨p.Race,y,p.out⟩:wAK) (gd y k) t j)->∀ x,x ∈ z ↔ ∃ i:Nat,x=i/\i < k + 1/\gd p.out i=false/\∃ j,Lp (⟨p.Race,y,p.out⟩:wAK) (gd y i) t j:=fun hno x=>by
   rw [z2]
   constructor
   ·rintro ⟨i,h1,h2,h3⟩
    exact ⟨i,h1,by omega,h3⟩
   ·rintro ⟨i,h1,h2,h3⟩
    by_cases c:i=k
    ·exact absurd (c ▸ h3) hno
    ·exact ⟨i,h1,by omega,h3⟩
  unfold st2
  rw [wDy (by omega) (by omega),hD,wDy (by omega) (by omega),hD]
  by_cases c1:gd p.out k=true
  ·rw [if_pos c1]
   exact ⟨z,rfl,z1,skip (fun h=>by have:=h.1;rw [c1] at this;exact nz this)⟩
  have c1':gd p.out k=false:=by simpa using c1
  obtain ⟨x,ex,hx⟩:=wPe G' (k:Int) (gd y k) t hyk.1 (by
   have:=hyk.2
   simp only at this
   omega)
  rw [if_neg c1,ex,hD]
  rcases hx with ⟨h3,h4⟩ | ⟨j,h3,h4,h5,_⟩
  ·rw [if_neg (by omega)]
   exact ⟨z,rfl,z1,skip (fun h=>by obtain ⟨_,j,hj⟩:=h;exact h4 j hj.1 hj)⟩
  ·rw [if_pos (by omega),wDV (by simp;omega),hD]
   refine ⟨_,rfl,?_,fun x=>?_⟩
   ·rw [nO]
    refine ⟨z1,nt _ _,fun a ha b hb=>?_⟩
    obtain ⟨i,rfl,hi,_⟩:=(z2 a).1 ha
    have:=nI.1 hb
    omega
   ·rw [nT,z2,nI]
    constructor
    ·rintro (⟨i,h1,h2,h3⟩ | h)
     ·exact ⟨i,h1,by omega,h3⟩
     ·exact ⟨k,h,by omega,c1',j,h5⟩
    ·rintro ⟨i,h1,h2,h3⟩
     by_cases c:i=k
     ·exact .inr (by rw [h1,c])
     ·exact .inl ⟨i,h1,by omega,h3⟩)
 rw [ez,hD]
 refine ⟨z,y,rfl,h1,h2,G',z1,fun x=>?_⟩
 rw [z2,h1]
end Go.Proofs.YtlmekamhphnmjaaGreat
namespace Go.Proofs.YtlmekamhphnmjaaGreat
open Go.KL
def rA (p:wAK) (z:List Int) (t:Int) (k1191:Nat) (l1188:List wAN):Option (List wAN) :=
      (chk (↑k1191:Int) z.length).bind fun _ =>
      (idx p.Race.Bibs (gd z k1191)).bind fun x1222 =>
      (chk (gd z k1191) p.done.length).bind fun _ =>
      (wBZ p (gd z k1191) (gd p.done (gd z k1191).toNat) t).bind fun x1264 =>
      (idx p.Race.Bibs x1264).bind fun x1286 =>
      (app 32 l1188 [(⟨x1222,(gd p.done (gd z k1191).toNat),t,x1286⟩:wAN)]).bind fun x1299 =>
      some x1299
def rO (z:List Int) (k1338:Nat) (l1337:List Bool):Option (List Bool) :=
      (chk (↑k1338:Int) z.length).bind fun _ =>
      (chk (gd z k1338) l1337.length).bind fun _ =>
      some (hM l1337 (gd z k1338).toNat true)
abbrev RS:=(List wAN) × Int × (List Int) × (List (List Int)) × (List Int) × (List Bool)
def rB:RS->Int->Option (RS ⊕ Empty)
 | (l1081,x1085,l1086,l1089,l1092,l1095),x1124 =>
  (wBa (⟨(⟨x1085,l1086,l1089⟩:wAT),l1092,l1095⟩:wAK) x1124).bind fun (x1150,x1151) =>
  (wCM 0 (↑x1150.length:Int) (rA x1151 x1150 x1124) l1081).bind fun y1196 =>
  (wCM 0 (↑x1150.length:Int) (rO x1150) x1151.out).bind fun y1343 =>
  some (.inl (y1196,x1151.Race.Laps,x1151.Race.Bibs,x1151.Race.Times,x1151.done,y1343))
theorem wLk (p0:wAT):wDB p0=((mkz 8 (↑p0.Bibs.length:Int) (0:Int)).bind fun x18 =>
 (mkz 1 (↑p0.Bibs.length:Int) false).bind fun x26 =>
 some (x18,x26)).bind fun (l9,l12) =>
 (wCX p0).bind fun x520 =>
 (wBP (S:=RS) (E:=Empty) rB ([],p0.Laps,p0.Bibs,p0.Times,l9,l12) x520).bind fun rr1118 =>
 match rr1118 with
 | .inl (y1416,y1417,y1418,y1419,y1420,y1421) =>
  (wBF y1416 (fun x=>wBV x.1 x.2)).bind fun x1438 =>
  some ((⟨(⟨y1417,y1418,y1419⟩:wAT),y1420,y1421⟩:wAK),x1438)
 | .inr e1432 =>
  e1432.elim:=rfl
theorem wMo {S:Type} {f:S->Int->Option (S ⊕ Empty)} {L:List Int} (I:Nat->S->Prop) {s0:S} (hL:L.length <= 1000000) (h0:I 0 s0) (h:∀ k s,k < L.length->I k s->∃ s',f s (gd L k)=some (.inl s')/\I (k + 1) s'):∃ s',wBP f s0 L=some (.inl s')/\I L.length s':=by
 unfold wBP
 rw [wEF (by omega)]
 have key:∀ body:Nat->S->Option (S ⊕ (S ⊕ Empty)),(∀ k s,k < L.length->I k s->∃ s',body k s=some (.inl s')/\I (k + 1) s')->∃ s',jn (forN body L.length 0 s0) (fun y:S=>some (Sum.inl y:S ⊕ Empty))=some (.inl s')/\I L.length s':=by
  intro body hb
  rcases wHq (body:=body) I (fun _=>False) L.length 0 s0 h0 (fun k s _ hk hI=>.inl (hb k s (by omega) hI)) with ⟨s',e,hs⟩ | ⟨_,_,h⟩
  ·rw [kP] at hs
   exact ⟨s',by rw [e];rfl,hs⟩
  ·exact h.elim
 refine key _ fun k s hk hI=>?_
 obtain ⟨s',e,hs⟩:=h k s hk hI
 refine ⟨s',?_,hs⟩
 rw [wBB hk,hD,e];rfl
structure wLl (r:wAT):Prop where
 n:r.Bibs.length <= 60
 t:r.Times.length=r.Bibs.length
 len:∀ l ∈ r.Times,l.length <= 20
 inc:∀ l ∈ r.Times,l.Pairwise (· < ·)
 pos:∀ l ∈ r.Times,∀ x ∈ l,0 <= x/\x <= 360000
 one:r.Bibs.Nodup
def nbf (τ:Nat->Option Int) (i:Nat) (t:Int):Prop:=∀ s,τ i=some s->t <= s
def lap (r:wAT) (τ:Nat->Option Int) (i:Nat) (t:Int) (j:Nat):Prop :=
 j < r.Bibs.length/\nbf τ j t/\t ∈ gd r.Times j/\cn (gd r.Times i) t + 2 <= cn (gd r.Times j) t
structure Exact (r:wAT) (ts:List Int) (τ:Nat->Option Int):Prop where
 in_:∀ i s,i < r.Bibs.length->τ i=some s->s ∈ ts
 iff:∀ i,i < r.Bibs.length->∀ t ∈ ts,nbf τ i t->(τ i=some t ↔ ∃ j,lap r τ i t j)
structure Ent (r:wAT) (τ:Nat->Option Int) (i:Nat) (o:wAN):Prop where
 bib:o.Bib=gd r.Bibs i
 time:τ i=some o.Time
 done:o.Done=cn (gd r.Times i) o.Time
 by_:∃ j,o.By=gd r.Bibs j/\lap r τ i o.Time j/\∀ k,lap r τ i o.Time k->gd r.Bibs j <= gd r.Bibs k
structure Ents (r:wAT) (τ:Nat->Option Int) (a:List wAN):Prop where
 of:∀ o ∈ a,∃ i,i < r.Bibs.length/\Ent r τ i o
 all:∀ i,i < r.Bibs.length->τ i ≠ none->∃ o ∈ a,o.Bib=gd r.Bibs i
 one:(a.map (·.Bib)).Nodup
def wHV (L:List Int) (k:Nat):Int:=if k=0 then -1 else gd L (k - 1)
structure RInv (r:wAT) (L:List Int) (k:Nat) (s:RS):Prop where
 laps:s.2.1=r.Laps
 bibs:s.2.2.1=r.Bibs
 times:s.2.2.2.1=r.Times
 dl:s.2.2.2.2.1.length=r.Bibs.length
 ol:s.2.2.2.2.2.length=r.Bibs.length
 al:s.1.length <= 60 * k
 tau:∃ τ,(∀ i,i < r.Bibs.length->gd s.2.2.2.2.2 i=(τ i).isSome)/\(∀ i,i < r.Bibs.length->gd s.2.2.2.2.1 i=cn (gd r.Times i) ((τ i).getD (wHV L k)))/\Exact r (L.take k) τ/\Ents r τ s.1
theorem wLJ {r:wAT} (G:wLl r) {i j:Nat} (hi:i < r.Bibs.length) (hj:j < r.Bibs.length) (e:gd r.Bibs i=gd r.Bibs j):i=j:=by
 have pw:=nA.1 (nL.1 G.one)
 rw [wDb hi,wDb hj] at e
 rcases nv i j with c | c | c
 ·exact absurd e (pw i j hi hj c)
 ·exact c
 ·exact absurd e.symm (pw j i hj hi c)
theorem wKh {τ τ':Nat->Option Int} {t u:Int} {z:Nat->Prop} (h1:∀ i,z i->τ' i=some t/\τ i=none) (h2:∀ i,¬ z i->τ' i=τ i) (hu:u <= t) (i:Nat):nbf τ' i u ↔ nbf τ i u:=by
 by_cases c:z i
 ·obtain ⟨a,b⟩:=h1 i c
  unfold nbf
  constructor
  ·intro _ s hs;rw [b] at hs;cases hs
  ·intro _ s hs;rw [a] at hs;cases hs;exact hu
 ·unfold nbf;rw [h2 i c]
theorem wHW {r:wAT} {τ τ':Nat->Option Int} {t u:Int} {z:Nat->Prop} (h1:∀ i,z i->τ' i=some t/\τ i=none) (h2:∀ i,¬ z i->τ' i=τ i) (hu:u <= t) (i j:Nat):lap r τ' i u j ↔ lap r τ i u j:=by
 unfold lap
 rw [wKh h1 h2 hu]
theorem rA_is {r:wAT} (G:wLl r) {τ:Nat->Option Int} {p:wAK} (hp:wJx p) (hr:p.Race=r) {t:Int} {z:List Int} (hz:∀ x ∈ z,∃ i:Nat,x=i/\i < r.Bibs.length/\(∃ j,Lp p (gd p.done i) t j))
  (hL:∀ i j,i < r.Bibs.length->gd p.out i=false->(Lp p (gd p.done i) t j ↔ lap r τ i t j)) (ho:∀ x ∈ z,∀ i:Nat,x=i->gd p.out i=false) (hd:∀ i,i < r.Bibs.length->gd p.out i=false->gd p.done i=cn (gd r.Times i) t)
  (hzl:z.length <= 60) {a:List wAN} (ha:a.length <= 100000):∃ e,wCM 0 (↑z.length:Int) (rA p z t) a=some (a ++ e)/\e.length=z.length/\∀ q,q < z.length->(gd e q).Bib=gd r.Bibs (gd z q).toNat/\(gd e q).Time=t/\(gd e q).Done=cn (gd r.Times (gd z q).toNat) t/\∃ j,(gd e q).By=gd r.Bibs j/\lap r τ (gd z q).toNat t j/\∀ k,lap r τ (gd z q).toNat t k->gd r.Bibs j <= gd r.Bibs k:=by
 have hb:=hp.b
 obtain ⟨s,e,es,h1,h2,h3⟩:=wEO (body:=rA p z t) (n:=z.length) (s0:=a) (fun k s=>∃ e,s=a ++ e/\e.length=k/\∀ q,q < k->(gd e q).Bib=gd r.Bibs (gd z q).toNat/\(gd e q).Time=t/\(gd e q).Done=cn (gd r.Times (gd z q).toNat) t/\∃ j,(gd e q).By=gd r.Bibs j/\lap r τ (gd z q).toNat t j/\∀ k,lap r τ (gd z q).toNat t k->gd r.Bibs j <= gd r.Bibs k) (by omega) ⟨[],by simp,rfl,fun q hq=>by omega⟩ (fun k s hk ⟨e,hs,h2,h3⟩=>by
  obtain ⟨i,hi,hi2,j0,hj0⟩:=hz _ (wAs hk)
  have hout:=ho _ (wAs hk) i hi
  have hpd:=hp.d0 i (by rw [<- hb,hr];exact hi2)
  have hll:=hp.len _ (wAs (l:=p.Race.Times) (k:=i) (by have:=hp.t;rw [this,<- hb,hr];exact hi2))
  have hdn:=hd i hi2 hout
  rw [hr] at hb
  unfold rA
  rw [wDy (by omega) (by omega),hD,hi,hr,wBB hi2,hD,wDy (by omega) (by omega),hD,nK]
  obtain ⟨x,ex,hx⟩:=wPe hp (i:Int) (gd p.done i) t hpd.1 (by omega)
  rw [ex,hD]
  rcases hx with ⟨_,h5⟩ | ⟨j,h4,h5,h6,h7⟩
  ·exact absurd hj0 (h5 j0 hj0.1)
  ·subst h4
   have hj:j < r.Bibs.length:=by rw [hb];exact h5
   rw [wBB hj,hD,wDV (by rw [hs];simp;omega),hD]
   refine ⟨_,rfl,e ++ [⟨gd r.Bibs i,gd p.done i,t,gd r.Bibs j⟩],by rw [hs,nV],by simp [h2],fun q hq=>?_⟩
   by_cases c:q=k
   ·subst c
    have eg:gd (e ++ [(⟨gd r.Bibs i,gd p.done i,t,gd r.Bibs j⟩:wAN)]) q=⟨gd r.Bibs i,gd p.done i,t,gd r.Bibs j⟩:=by rw [<- h2,wJO]
    rw [eg,hi,nK]
    refine ⟨rfl,rfl,hdn,j,rfl,(hL i j hi2 hout).1 h6,fun k hk=>?_⟩
    have hk2:=(hL i k hi2 hout).2 hk
    rw [hr] at h7
    exact h7 k hk2.1 hk2
   ·rw [wGP (by omega)]
    exact h3 q (by omega))
 exact ⟨es,by rw [e,h1],h2,h3⟩
theorem rO_is {z:List Int} {n:Nat} (hz:∀ x ∈ z,0 <= x/\x < n) (hzl:z.length <= 60) {o:List Bool} (ho:o.length=n):∃ o',wCM 0 (↑z.length:Int) (rO z) o=some o'/\o'.length=n/\∀ i:Nat,i < n->gd o' i=if (i:Int) ∈ z then true else gd o i:=by
 obtain ⟨o',e,h1,h2⟩:=wEO (body:=rO z) (n:=z.length) (s0:=o) (fun k o'=>o'.length=n/\∀ i:Nat,i < n->gd o' i=if (i:Int) ∈ z.take k then true else gd o i) (by omega) ⟨ho,fun i _=>by simp⟩ (fun k s hk ⟨h1,h2⟩=>by
  have hr:=hz _ (wAs hk)
  unfold rO
  rw [wDy (by omega) (by omega),hD,wDy (by omega) (by omega),hD]
  refine ⟨_,rfl,by simpa using h1,fun i hi=>?_⟩
  rw [wOH (by omega) (by omega),h2 i hi,wDE hk]
  by_cases c:i=(gd z k).toNat
  ·rw [if_pos c,if_pos (by rw [nT,nI];right;omega)]
  ·rw [if_neg c]
   have:((i:Int) ∈ z.take k ++ [gd z k]) ↔ (i:Int) ∈ z.take k:=by
    rw [nT,nI]
    exact ⟨fun h=>h.elim id fun h=>absurd h (by omega),.inl⟩
   simp only [this])
 exact ⟨o',e,h1,fun i hi=>by rw [h2 i hi,nH]⟩
end Go.Proofs.YtlmekamhphnmjaaGreat
namespace Go.Proofs.YtlmekamhphnmjaaGreat
open Go.KL
structure Times (r:wAT) (L:List Int):Prop where
 inc:L.Pairwise (· < ·)
 all:∀ x,x ∈ L ↔ ∃ l ∈ r.Times,x ∈ l
 len:L.length <= 1200
theorem wOl {L:List Int} (hL:L.Pairwise (· < ·)) (h0:∀ x ∈ L,0 <= x) {k:Nat} (hk:k < L.length):wHV L k < gd L k/\(∀ x ∈ L.take k,x <= wHV L k/\x < gd L k)/\∀ x ∈ L,wHV L k < x->gd L k <= x:=by
 have mono:∀ i j,i < j->j < L.length->gd L i < gd L j:=fun i j hij hj=>by
  have:=nA.1 hL i j (by omega) hj hij
  rwa [<- wDb (by omega),<- wDb hj] at this
 have le:∀ i j,i <= j->j < L.length->gd L i <= gd L j:=fun i j hij hj=>by
  by_cases e:i=j
  ·subst e;exact nU _
  ·exact kQ (mono i j (by omega) hj)
 unfold wHV
 refine ⟨?_,fun x hx=>?_,fun x hx hlt=>?_⟩
 ·split
  ·have:=h0 _ (wAs hk);omega
  ·exact mono _ _ (by omega) hk
 ·obtain ⟨i,hi,e⟩:=nE hx
  rw [nX] at hi
  rw [List.getElem_take,<- wDb (by omega)] at e
  subst e
  rw [if_neg (by omega)]
  exact ⟨le _ _ (by omega) (by omega),mono _ _ (by omega) hk⟩
 ·obtain ⟨i,hi,e⟩:=nE hx
  rw [<- wDb hi] at e
  subst e
  rcases kB i k with c | c
  ·exfalso
   rw [if_neg (by omega)] at hlt
   have:=le i (k - 1) (by omega) (by omega)
   omega
  ·exact le _ _ c hi
theorem wNf {r:wAT} (G:wLl r) {L:List Int} (hT:Times r L) {k:Nat} (hk:k < L.length) {s:RS} (I:RInv r L k s):∃ s',rB s (gd L k)=some (.inl s')/\RInv r L (k + 1) s':=by
 obtain ⟨A,laps,bibs,times,done,out⟩:=s
 obtain ⟨e1,e2,e3,dl,ol,al,τ,to,td,tx,te⟩:=I
 simp only at e1 e2 e3 dl ol al to td te
 subst e1 e2 e3
 have hn:=G.n
 have hrt:=G.t
 have hpos:∀ x ∈ L,0 <= x:=fun x hx=>by
  obtain ⟨l,hl,hx⟩:=(hT.all x).1 hx
  exact (G.pos l hl x hx).1
 obtain ⟨lt1,lt2,lt3⟩:=wOl hT.inc hpos hk
 have hkl:=hT.len
 generalize ht:gd L k=t at lt1 lt2 lt3 ⊢
 have tin:∀ i,i < r.Bibs.length->gd r.Times i ∈ r.Times:=fun i hi=>wAs (by omega)
 let p:wAK:=⟨r,done,out⟩
 have Gp:wJx p:=⟨by show done.length <= 60;omega,by show out.length=done.length;omega,by show r.Bibs.length=done.length;omega,by show r.Times.length=done.length;omega,fun i hi=>by
  have hi':i < r.Bibs.length:=by rw [<- dl];exact hi
  show 0 <= gd done i/\gd done i <= ((gd r.Times i).length:Int)
  rw [td i hi']
  have:=wLj (gd r.Times i) ((τ i).getD (wHV L k))
  omega,fun l hl=>by have:=G.len l hl;omega⟩
 obtain ⟨z,y,ez,yl,yn,Gy,zp,zi⟩:=wOk Gp t
 have yl':y.length=r.Bibs.length:=by rw [yl];exact dl
 have outN:∀ i,i < r.Bibs.length->(gd out i=false ↔ τ i=none):=fun i hi=>by
  rw [to i hi]
  cases τ i <;> simp
 have yv:∀ i,i < r.Bibs.length->gd y i=cn (gd r.Times i) ((τ i).getD t):=fun i hi=>by
  have h1:=yn i (by rw [dl];exact hi)
  rw [h1]
  unfold nx
  show (if gd out i=false/\gd done i < ((gd r.Times i).length:Int)/\gd (gd r.Times i) (gd done i).toNat=t then gd done i + 1 else gd done i)=_
  cases hτ:τ i with
  | some s =>
   have ho:gd out i=true:=by rw [to i hi,hτ];rfl
   rw [if_neg (fun h=>by rw [ho] at h;exact nz h.1),td i hi,hτ]
   rfl
  | none =>
   have ho:gd out i=false:=(outN i hi).2 hτ
   have hd:=td i hi
   rw [hτ] at hd
   simp only [kR] at hd ⊢
   rw [wOj (G.inc _ (tin i hi)) lt1 (fun x hx hlt=>lt3 x ((hT.all x).2 ⟨_,tin i hi,hx⟩) hlt),hd]
   by_cases c:cn (gd r.Times i) (wHV L k) < (gd r.Times i).length/\gd (gd r.Times i) (cn (gd r.Times i) (wHV L k))=t
   ·rw [if_pos c,if_pos ⟨ho,by omega,by rw [nK];exact c.2⟩]
    omega
   ·rw [if_neg c,if_neg (fun h=>c ⟨by omega,by have:=h.2.2;rwa [nK] at this⟩)]
 have nbN:∀ j,j < r.Bibs.length->(nbf τ j t ↔ τ j=none):=fun j hj=>by
  constructor
  ·intro h
   cases hτ:τ j with
   | none=>rfl
   | some s =>
    have h1:=h s hτ
    have h2:=lt2 s (tx.in_ j s hj hτ)
    omega
  ·intro h s hs;rw [h] at hs;cases hs
 have lapN:∀ i j,i < r.Bibs.length->gd out i=false->(Lp (⟨r,y,out⟩:wAK) (gd y i) t j ↔ lap r τ i t j):=fun i j hi ho=>by
  have yi:gd y i=cn (gd r.Times i) t:=by rw [yv i hi,(outN i hi).1 ho];rfl
  unfold Lp lap
  show (j < y.length/\gd out j=false/\gd y i + 2 <= gd y j/\gd (gd r.Times j) (gd y j - 1).toNat=t) ↔ _
  rw [yl']
  constructor
  ·rintro ⟨hj,h1,h2,h3⟩
   have hτ:=(outN j hj).1 h1
   have yj:gd y j=cn (gd r.Times j) t:=by rw [yv j hj,hτ];rfl
   rw [yi,yj] at h2
   rw [yj] at h3
   have hle:=wLj (gd r.Times j) t
   refine ⟨hj,(nbN j hj).2 hτ,?_,by omega⟩
   have hm:=wAs (l:=gd r.Times j) (k:=((cn (gd r.Times j) t:Nat) - 1:Int).toNat) (by omega)
   rwa [h3] at hm
  ·rintro ⟨hj,h1,h2,h3⟩
   have hτ:=(nbN j hj).1 h1
   have yj:gd y j=cn (gd r.Times j) t:=by rw [yv j hj,hτ];rfl
   obtain ⟨c1,c2,c3⟩:=wPd (G.inc _ (tin j hj)) h2
   refine ⟨hj,(outN j hj).2 hτ,by rw [yi,yj];omega,?_⟩
   rw [yj,show (((cn (gd r.Times j) t:Nat):Int) - 1).toNat=cn (gd r.Times j) t - 1 by omega]
   exact c3
 have zin:∀ x,x ∈ z ↔ ∃ i:Nat,x=i/\i < r.Bibs.length/\τ i=none/\∃ j,lap r τ i t j:=fun x=>by
  rw [zi]
  constructor
  ·rintro ⟨i,h1,h2,h3,j,h4⟩
   have hi:i < r.Bibs.length:=by rw [<- dl];exact h2
   exact ⟨i,h1,hi,(outN i hi).1 h3,j,(lapN i j hi h3).1 h4⟩
  ·rintro ⟨i,h1,hi,h3,j,h4⟩
   exact ⟨i,h1,by rw [<- dl] at hi;exact hi,(outN i hi).2 h3,j,(lapN i j hi ((outN i hi).2 h3)).2 h4⟩
 have zl:z.length <= 60:=by
  have key:∀ m,m < z.length->(m:Int) <= gd z m:=by
   intro m
   induction m with
   | zero =>
    intro hm
    obtain ⟨i,h1,_⟩:=(zin _).1 (wAs hm)
    omega
   | succ m ih =>
    intro hm
    have h3:=ih (by omega)
    have h4:=nA.1 zp m (m + 1) (by omega) hm (by omega)
    rw [<- wDb (by omega),<- wDb hm] at h4
    omega
  rcases kB 60 z.length with c | c
  ·have h5:=key 60 c
   obtain ⟨i,h1,h2,_⟩:=(zin _).1 (wAs c)
   omega
  ·exact c
 obtain ⟨E,eE,El,Ee⟩:=rA_is (τ:=τ) G (p:=⟨r,y,out⟩) Gy rfl (t:=t) (z:=z) (fun x hx=>by
   obtain ⟨i,h1,h2,h3,j,h4⟩:=(zin x).1 hx
   exact ⟨i,h1,h2,j,(lapN i j h2 ((outN i h2).2 h3)).2 h4⟩) lapN (fun x hx i hi=>by
   obtain ⟨i',h1,h2,h3,_⟩:=(zin x).1 hx
   have:i=i':=by omega
   subst this
   exact (outN i h2).2 h3) (fun i hi ho=>by
   show gd y i=_
   rw [yv i hi,(outN i hi).1 ho];rfl) zl (a:=A) (by omega)
 obtain ⟨o',eo,ol',oi⟩:=rO_is (n:=r.Bibs.length) (z:=z) (fun x hx=>by
  obtain ⟨i,h1,h2,_⟩:=(zin x).1 hx
  omega) zl (o:=out) ol
 have er:rB (A,r.Laps,r.Bibs,r.Times,done,out) t=some (.inl (A ++ E,r.Laps,r.Bibs,r.Times,y,o')):=by
  unfold rB
  simp only
  rw [show wBa (⟨(⟨r.Laps,r.Bibs,r.Times⟩:wAT),done,out⟩:wAK) t=some (z,(⟨r,y,out⟩:wAK)) from ez,hD]
  simp only
  rw [eE,hD,eo,hD]
 obtain ⟨τ',hτ1,hτ2⟩:∃ τ':Nat->Option Int,(∀ i:Nat,(i:Int) ∈ z->τ' i=some t)/\∀ i:Nat,¬ (i:Int) ∈ z->τ' i=τ i:=⟨fun i=>if (i:Int) ∈ z then some t else τ i,fun i hi=>if_pos hi,fun i hi=>if_neg hi⟩
 refine ⟨_,er,rfl,rfl,rfl,yl',ol',by simp only [nG];omega,τ',fun i hi=>?_,fun i hi=>?_,?_,?_⟩
 ·simp only
  rw [oi i hi]
  by_cases c:(i:Int) ∈ z
  ·rw [if_pos c,hτ1 i c];rfl
  ·rw [if_neg c,hτ2 i c];exact to i hi
 ·simp only
  rw [yv i hi]
  have hl:wHV L (k + 1)=t:=by unfold wHV;rw [if_neg (by omega)];exact ht
  rw [hl]
  by_cases c:(i:Int) ∈ z
  ·rw [hτ1 i c]
   obtain ⟨i',h1,h2,h3,_⟩:=(zin _).1 c
   have:i=i':=by omega
   subst this
   rw [h3];rfl
  ·rw [hτ2 i c]
 ·
  have h1:∀ i:Nat,(i:Int) ∈ z->τ' i=some t/\τ i=none:=fun i hi=>by
   obtain ⟨i',h1,_,h3,_⟩:=(zin _).1 hi
   have:i=i':=by omega
   subst this
   exact ⟨hτ1 i hi,h3⟩
  have h2:∀ i:Nat,¬ (i:Int) ∈ z->τ' i=τ i:=hτ2
  have tk:∀ u,u ∈ L.take (k + 1) ↔ u ∈ L.take k \/ u=t:=fun u=>by rw [wDE hk,nT,nI,ht]
  refine ⟨fun i u hi hu=>?_,fun i hi u hu hnb=>?_⟩
  ·rw [tk]
   by_cases c:(i:Int) ∈ z
   ·have:=(h1 i c).1
    rw [this] at hu
    right
    exact (ni hu).symm
   ·rw [h2 i c] at hu
    exact .inl (tx.in_ i u hi hu)
  ·rcases (tk u).1 hu with hu | hu
   ·have hut:=(lt2 u hu).2
    rw [wKh (z:=fun i:Nat=>(i:Int) ∈ z) h1 h2 (kQ hut)] at hnb
    have:=tx.iff i hi u hu hnb
    simp only [wHW (r:=r) (z:=fun i:Nat=>(i:Int) ∈ z) h1 h2 (kQ hut)]
    rw [<- this]
    by_cases c:(i:Int) ∈ z
    ·rw [(h1 i c).1,(h1 i c).2]
     exact ⟨fun h=>by have:=ni h;omega,fun h=>by cases h⟩
    ·rw [h2 i c]
   ·subst hu
    rw [wKh (z:=fun i:Nat=>(i:Int) ∈ z) h1 h2 (nU _),nbN i hi] at hnb
    simp only [wHW (r:=r) (z:=fun i:Nat=>(i:Int) ∈ z) h1 h2 (nU _)]
    constructor
    ·intro h
     by_cases c:(i:Int) ∈ z
     ·obtain ⟨i',g1,_,_,g4⟩:=(zin _).1 c
      have:i=i':=by omega
      subst this
      exact g4
     ·rw [h2 i c,hnb] at h;cases h
    ·intro h
     exact (h1 i ((zin _).2 ⟨i,rfl,hi,hnb,h⟩)).1
 ·have h1:∀ i:Nat,(i:Int) ∈ z->τ' i=some t/\τ i=none:=fun i hi=>by
   obtain ⟨i',h1,_,h3,_⟩:=(zin _).1 hi
   have:i=i':=by omega
   subst this
   exact ⟨hτ1 i hi,h3⟩
  have h2:∀ i:Nat,¬ (i:Int) ∈ z->τ' i=τ i:=hτ2
  have hA:∀ o ∈ A,∃ i,i < r.Bibs.length/\Ent r τ i o/\¬ (i:Int) ∈ z/\o.Time <= t:=fun o ho=>by
   obtain ⟨i,hi,hE⟩:=te.of o ho
   refine ⟨i,hi,hE,fun c=>?_,kQ (lt2 _ (tx.in_ i _ hi hE.time)).2⟩
   have:=(h1 i c).2
   rw [hE.time] at this
   cases this
  have hE:∀ q,q < z.length->∃ i:Nat,gd z q=i/\i < r.Bibs.length/\τ i=none/\(i:Int) ∈ z:=fun q hq=>by
   obtain ⟨i,g1,g2,g3,_⟩:=(zin _).1 (wAs hq)
   exact ⟨i,g1,g2,g3,g1 ▸ wAs hq⟩
  refine ⟨fun o ho=>?_,fun i hi hτ=>?_,?_⟩
  ·rcases nT.1 ho with ho | ho
   ·obtain ⟨i,hi,he,hz,hot⟩:=hA o ho
    obtain ⟨j,j1,j2,j3⟩:=he.by_
    refine ⟨i,hi,he.bib,by rw [h2 i hz];exact he.time,he.done,j,j1,(wHW (z:=fun i:Nat=>(i:Int) ∈ z) h1 h2 hot i j).2 j2,fun q hq=>j3 q ((wHW (z:=fun i:Nat=>(i:Int) ∈ z) h1 h2 hot i q).1 hq)⟩
   ·obtain ⟨q,hq,eq⟩:=nE ho
    rw [<- wDb hq] at eq
    subst eq
    obtain ⟨i,g1,g2,_,g4⟩:=hE q (by omega)
    obtain ⟨b1,b2,b3,j,j1,j2,j3⟩:=Ee q (by omega)
    rw [g1,nK] at b1 b3 j2
    refine ⟨i,g2,b1,by rw [b2];exact (h1 i g4).1,by rw [b2];exact b3,j,j1,by rw [b2];exact (wHW (z:=fun i:Nat=>(i:Int) ∈ z) h1 h2 (nU _) i j).2 j2,fun q' hq'=>?_⟩
    rw [b2] at hq'
    have:=j3 q' (by rw [g1,nK];exact (wHW (z:=fun i:Nat=>(i:Int) ∈ z) h1 h2 (nU _) i q').1 hq')
    exact this
  ·by_cases c:(i:Int) ∈ z
   ·obtain ⟨q,hq,eq⟩:=nE c
    rw [<- wDb hq] at eq
    refine ⟨gd E q,List.mem_append_right _ (wAs (by omega)),?_⟩
    rw [(Ee q hq).1,eq,nK]
   ·rw [hτ2 i c] at hτ
    obtain ⟨o,ho,e⟩:=te.all i hi hτ
    exact ⟨o,kC _ ho,e⟩
  ·rw [nP,kK]
   refine ⟨te.one,?_,fun a ha b hb e=>?_⟩
   ·rw [nL,nA]
    intro a b ha hb hab e
    rw [nD] at ha hb
    rw [nJ,nJ,<- wDb ha,<- wDb hb,(Ee a (by omega)).1,(Ee b (by omega)).1] at e
    obtain ⟨i,g1,g2,_⟩:=hE a (by omega)
    obtain ⟨j,g3,g4,_⟩:=hE b (by omega)
    rw [g1,g3,nK,nK] at e
    have:=wLJ G g2 g4 e
    have h4:=nA.1 zp a b (by omega) (by omega) hab
    rw [<- wDb (by omega),<- wDb (by omega)] at h4
    omega
   ·obtain ⟨o,ho,e1⟩:=nR.1 ha
    obtain ⟨i,hi,he,hz,_⟩:=hA o ho
    obtain ⟨o2,ho2,e2⟩:=nR.1 hb
    obtain ⟨q,hq,eq⟩:=nE ho2
    rw [<- wDb hq] at eq
    subst eq
    obtain ⟨j,g3,g4,_,g5⟩:=hE q (by omega)
    rw [(Ee q (by omega)).1,g3,nK] at e2
    have:=wLJ G hi g4 (by rw [<- he.bib,e1,e,e2])
    subst this
    exact hz g5
end Go.Proofs.YtlmekamhphnmjaaGreat
namespace Go.Proofs.YtlmekamhphnmjaaGreat
open Go.KL
theorem wIl {zs:List Int} (h:zs.Pairwise (· <= ·)):(Go.Lib.compact zs).Pairwise (· < ·)/\(∀ x,x ∈ Go.Lib.compact zs ↔ x ∈ zs)/\(Go.Lib.compact zs).length <= zs.length:=by
 have hg:∀ i,i < zs.length->(zs.toArray[i]!)=gd zs i:=fun i hi=>by
  rw [getElem!_pos zs.toArray i (by simpa using hi),wDb hi];simp
 have le:∀ i j,i <= j->j < zs.length->gd zs i <= gd zs j:=fun i j hij hj=>by
  by_cases e:i=j
  ·subst e;exact nU _
  ·have:=nA.1 h i j (by omega) hj (by omega)
   rwa [<- wDb (by omega),<- wDb hj] at this
 have key:∀ m,m <= zs.length->(Go.Lib.compactUpTo zs.toArray m).Pairwise (· < ·)/\(∀ x,x ∈ Go.Lib.compactUpTo zs.toArray m ↔ ∃ j,j < m/\gd zs j=x)/\(Go.Lib.compactUpTo zs.toArray m).length <= m:=by
  intro m
  induction m with
  | zero=>intro _;exact ⟨by simp [Go.Lib.compactUpTo],fun x=>by simp [Go.Lib.compactUpTo],by simp [Go.Lib.compactUpTo]⟩
  | succ m ih =>
   intro hm
   obtain ⟨h1,h2,h3⟩:=ih (by omega)
   rw [Go.Lib.compactUpTo_succ]
   by_cases c:Go.Lib.keeps zs.toArray m=true
   ·rw [if_pos c,hg m (by omega)]
    refine ⟨?_,fun x=>?_,by simp;omega⟩
    ·rw [nO]
     refine ⟨h1,nt _ _,fun a ha b hb=>?_⟩
     obtain ⟨j,hj,e⟩:=(h2 a).1 ha
     have hb':=nI.1 hb
     unfold Go.Lib.keeps at c
     simp only [decide_eq_true_iff] at c
     rcases c with c | c
     ·omega
     ·rw [hg m (by omega),hg (m - 1) (by omega)] at c
      have l1:=le j (m - 1) (by omega) (by omega)
      have l2:=le (m - 1) m (by omega) (by omega)
      omega
    ·rw [nT,nI,h2]
     constructor
     ·rintro (⟨j,hj,e⟩ | e)
      ·exact ⟨j,by omega,e⟩
      ·exact ⟨m,by omega,e.symm⟩
     ·rintro ⟨j,hj,e⟩
      by_cases ej:j=m
      ·subst ej;exact .inr e.symm
      ·exact .inl ⟨j,by omega,e⟩
   ·rw [if_neg c,List.append_nil]
    refine ⟨h1,fun x=>?_,by omega⟩
    have m0:m ≠ 0/\gd zs m=gd zs (m - 1):=by
     unfold Go.Lib.keeps at c
     simp only [decide_eq_true_iff,not_or,ne_eq,Decidable.not_not] at c
     have:=c.2
     rw [hg m (by omega),hg (m - 1) (by omega)] at this
     exact ⟨c.1,this⟩
    rw [h2]
    constructor
    ·rintro ⟨j,hj,e⟩
     exact ⟨j,by omega,e⟩
    ·rintro ⟨j,hj,e⟩
     by_cases ej:j=m
     ·subst ej;exact ⟨j - 1,by omega,by rw [<- m0.2];exact e⟩
     ·exact ⟨j,by omega,e⟩
 obtain ⟨h1,h2,h3⟩:=key zs.length (kH _)
 refine ⟨h1,fun x=>?_,h3⟩
 show x ∈ Go.Lib.compactUpTo zs.toArray zs.length ↔ _
 rw [h2]
 constructor
 ·rintro ⟨j,hj,e⟩
  exact e ▸ wAs hj
 ·intro hx
  obtain ⟨j,hj,e⟩:=nE hx
  exact ⟨j,hj,by rw [wDb hj];exact e⟩
theorem wLK {T:List (List Int)} (hl:∀ l ∈ T,l.length <= 20):∀ k,(T.take k).flatten.length <= 20 * k:=by
 intro k
 induction k generalizing T with
 | zero=>simp
 | succ k ih =>
  cases T with
  | nil=>simp
  | cons a T =>
   rw [List.take_succ_cons,List.flatten_cons,nG]
   have:=hl a (by simp)
   have:=ih (T:=T) fun l h=>hl l (by simp [h])
   omega
theorem wJy {T:List (List Int)} {k:Nat} (hk:k < T.length):(T.take (k + 1)).flatten=(T.take k).flatten ++ gd T k:=by
 rw [wDE hk,List.flatten_append];simp
theorem wMp {T:List (List Int)} (hn:T.length <= 60) (hl:∀ l ∈ T,l.length <= 20):wBv T=some T.flatten:=by
 unfold wBv
 have fl:=wLK hl
 obtain ⟨x,ex,hx⟩:=wEO (body:=fun (k7:Nat) (x6:Int) =>
  (idx T (↑k7:Int)).bind fun x29 =>
  if (w64 (x6 + (↑x29.length:Int))) < 0 then
   none
  else
   some (w64 (x6 + (↑x29.length:Int)))) (n:=T.length) (s0:=(0:Int)) (fun k x=>x=((T.take k).flatten.length:Int)) (by omega) (by simp) (fun k x hk hx=>by
  have h1:=hl _ (wAs hk)
  have h2:=fl k
  rw [wBB hk,hD,hx,wAa (by omega) (by omega),if_neg (by omega)]
  exact ⟨_,rfl,by rw [wJy hk,nG];omega⟩)
 have h60:=fl T.length
 rw [nH] at h60 hx
 have eg:wCN [] x=some []:=by
  unfold wCN
  rw [if_neg (by omega),wAa (by omega) (by omega)]
  by_cases c:0 < x - 0
  ·rw [if_pos c,appZ,if_pos (by omega)];rfl
  ·rw [if_neg c]
 have e2:=wDU (body:=fun (k86:Nat) (l83:List Int) =>
  (idx T (↑k86:Int)).bind fun x107 =>
  (app 8 l83 x107).bind fun x122 =>
  some x122) (n:=T.length) (s0:=[]) (fun k=>(T.take k).flatten) (by simp) (by omega) (fun i hi=>by
  have h1:=hl _ (wAs hi)
  have h2:=fl i
  rw [wBB hi,hD,wDV (by omega),hD,wJy hi])
 rw [nH] at e2
 rw [ex,hD,eg,hD,e2,hD]
theorem wNg {r:wAT} (G:wLl r):∃ L,wCX r=some L/\Times r L:=by
 unfold wCX
 have hn:=G.n
 have hl:=wLK G.len r.Times.length
 rw [nH] at hl
 have ht:=G.t
 rw [wMp (by omega) G.len,hD]
 have e1:wCw r.Times.flatten=some (r.Times.flatten.mergeSort fun x y=>decide (x <= y)):=by
  unfold wCw wNT
  exact if_pos (by omega)
 rw [e1,hD]
 have hp:=kE r.Times.flatten fun x y=>decide (x <= y)
 have so:=nu (le:=fun x y:Int=>decide (x <= y)) (fun a b c h1 h2=>by simp at h1 h2 ⊢;omega) (fun a b=>by simp;omega) r.Times.flatten
 have hlen:=hp.length_eq
 generalize r.Times.flatten.mergeSort (fun x y=>decide (x <= y))=M at hp so hlen
 obtain ⟨c1,c2,c3⟩:=wIl (zs:=M) (so.imp fun h=>by simpa using h)
 have e2:wCW M=some (Go.Lib.compact M):=by
  unfold wCW wHo
  exact if_pos (by omega)
 rw [e2,hD]
 unfold wCa
 refine ⟨_,rfl,c1,fun x=>?_,by omega⟩
 rw [c2,hp.mem_iff,List.mem_flatten]
def ltO (a b:wAN):Prop:=a.Time < b.Time \/ a.Time=b.Time/\a.Bib < b.Bib
instance (a b:wAN):Decidable (ltO a b):=by unfold ltO;exact inferInstance
theorem cmpO (a b:wAN):wBV a b=some (if a.Time < b.Time then -1 else if b.Time < a.Time then 1 else if a.Bib < b.Bib then -1 else if b.Bib < a.Bib then 1 else 0):=by
 have hc:∀ x y:Int,wAh x y=some (if x < y then -1 else if y < x then 1 else 0):=fun x y=>by
  unfold wAh wCh
  simp only [not_true_eq_false,decide_false,hD,kI,if_false]
  split
  ·rfl
  ·split <;> rfl
 have ho:∀ x y:Int,wCx [x,y]=some (if x=0 then y else x):=fun x y=>by
  unfold wCx
  rw [wEF (by simp)]
  show jn (forN _ 2 0 ()) _=_
  have i0:idx [x,y] ((0:Nat):Int)=some x:=rfl
  have i1:idx [x,y] ((0 + 1:Nat):Int)=some y:=rfl
  simp only [forN,i0,i1,hD]
  by_cases c:x=0
  ·simp only [if_pos c]
   by_cases d:y=0
   ·simp only [if_pos d,d];rfl
   ·simp only [if_neg d];rfl
  ·simp only [if_neg c];rfl
 unfold wBV
 rw [hc,hD,hc,hD,ho,hD]
 by_cases c1:a.Time < b.Time
 ·simp [c1]
 ·by_cases c2:b.Time < a.Time
  ·simp [c1,c2]
  ·simp only [c1,c2,if_false,if_true]
structure RunP (r:wAT) (D:List Int) (A:List wAN) (τ:Nat->Option Int):Prop where
 dl:D.length=r.Bibs.length
 done:∀ i,i < r.Bibs.length->(τ i=none/\gd D i=(gd r.Times i).length) \/ ∃ s,τ i=some s/\gd D i=cn (gd r.Times i) s
 ex:∀ i,i < r.Bibs.length->∀ j,j < r.Bibs.length->∀ t ∈ gd r.Times j,nbf τ i t->(τ i=some t ↔ ∃ k,lap r τ i t k)
 in_:∀ i s,i < r.Bibs.length->τ i=some s->∃ l ∈ r.Times,s ∈ l
 ents:Ents r τ A
 ord:A.Pairwise ltO
 al:A.length <= 100000
theorem wPg {r:wAT} (G:wLl r):∃ p A τ,wDB r=some (p,A)/\RunP r p.done A τ:=by
 rw [wLk]
 have hn:=G.n
 have ht:=G.t
 rw [mkz,if_pos (by omega),hD,mkz,if_pos (by omega),hD,hD]
 simp only
 obtain ⟨L,eL,hT⟩:=wNg G
 rw [eL,hD]
 have hpos:∀ x ∈ L,0 <= x:=fun x hx=>by
  obtain ⟨l,hl,hx⟩:=(hT.all x).1 hx
  exact (G.pos l hl x hx).1
 have hll:=hT.len
 obtain ⟨⟨A,laps,bibs,times,done,out⟩,e,I⟩:=wMo (f:=rB) (L:=L) (s0:=([],r.Laps,r.Bibs,r.Times,kG (r.Bibs.length:Int).toNat 0,kG (r.Bibs.length:Int).toNat false)) (RInv r L) (by omega) ⟨rfl,rfl,rfl,by simp,by simp,by simp,fun _=>none,fun i hi=>by rw [wDb (by simpa using hi)];simp,fun i hi=>by
   rw [wDb (by simpa using hi)]
   have:cn (gd r.Times i) (-1)=0:=kD.2 fun x hx=>by
    have:=(G.pos _ (wAs (l:=r.Times) (k:=i) (by omega)) x hx).1
    simp;omega
   simp only [kR,wHV,if_true,this,List.getElem_replicate]
   rfl,⟨(fun i s _ h=>by cases h),(fun i _ t ht=>by rw [List.take_zero] at ht;cases ht)⟩,⟨(fun o ho=>by cases ho),(fun i _ h=>absurd rfl h),by simp⟩⟩ (fun k s hk I=>wNf G hT hk I)
 rw [e,hD]
 obtain ⟨e1,e2,e3,dl,ol,al,τ,to,td,tx,te⟩:=I
 simp only at e1 e2 e3 dl ol al to td te
 rw [nH] at tx
 simp only
 have lt:∀ a b:wAN,ltB (fun x:wAN × wAN=>wBV x.1 x.2) a b=decide (ltO a b):=fun a b=>by
  unfold ltB ltO
  simp only [cmpO]
  by_cases c1:a.Time < b.Time
  ·simp [c1]
  ·by_cases c2:b.Time < a.Time
   ·simp [c1,c2];omega
   ·have c3:a.Time=b.Time:=by omega
    by_cases c4:a.Bib < b.Bib
    ·simp [c3,c4]
    ·by_cases c5:b.Bib < a.Bib <;> simp [c3,c4,c5]
 have one:∀ x ∈ A,∀ y ∈ A,x.Bib=y.Bib->x=y:=fun x hx y hy e=>by
  obtain ⟨i,hi,ei⟩:=nE hx
  obtain ⟨j,hj,ej⟩:=nE hy
  have pw:=nA.1 (nL.1 te.one)
  rcases nv i j with c | c | c
  ·have:=pw i j (by simpa using hi) (by simpa using hj) c
   rw [nJ,nJ,ei,ej] at this
   exact absurd e this
  ·subst c;rw [<- ei,<- ej]
  ·have:=pw j i (by simpa using hj) (by simpa using hi) c
   rw [nJ,nJ,ei,ej] at this
   exact absurd e.symm this
 have C:Cmp (fun x:wAN × wAN=>wBV x.1 x.2) A:=by
  refine ⟨by omega,fun x _ y _=>by show (wBV x y).isSome=true;rw [cmpO];rfl,fun x _=>by rw [lt];simp [ltO],fun x _ y _ w _ a b=>?_,fun x _ y _ w _ a b=>?_,fun x hx y hy a b=>?_⟩
  ·rw [lt] at a b ⊢
   simp only [decide_eq_true_iff] at a b ⊢
   simp only [ltO] at a b ⊢
   omega
  ·rw [lt] at a b ⊢
   simp only [decide_eq_false_iff_not] at a b ⊢
   simp only [ltO] at a b ⊢
   omega
  ·rw [lt] at a b
   simp only [decide_eq_false_iff_not] at a b
   simp only [ltO] at a b
   exact one x hx y hy (by omega)
 unfold wBF
 rw [wJB C,hD]
 have hp:=kE A fun x y=>!ltB (fun x:wAN × wAN=>wBV x.1 x.2) y x
 have so:=nu (le:=fun x y:wAN=>!ltB (fun x:wAN × wAN=>wBV x.1 x.2) y x) (fun a b c h1 h2=>by
   rw [lt] at h1 h2 ⊢
   simp only [na,decide_eq_false_iff_not] at h1 h2 ⊢
   simp only [ltO] at h1 h2 ⊢
   omega) (fun a b=>by
   rw [lt,lt]
   simp only [Bool.or_eq_true,na,decide_eq_false_iff_not]
   simp only [ltO]
   omega) A
 generalize A.mergeSort (fun x y=>!ltB (fun x:wAN × wAN=>wBV x.1 x.2) y x)=A' at hp so
 refine ⟨_,A',τ,rfl,dl,fun i hi=>?_,fun i hi j hj t htj=>tx.iff i hi t ((hT.all t).2 ⟨_,wAs (by omega),htj⟩),fun i s hi hs=>(hT.all s).1 (tx.in_ i s hi hs),⟨fun o ho=>te.of o (hp.mem_iff.1 ho),fun i hi h=>?_,(hp.map _).nodup_iff.2 te.one⟩,?_,by have:=hp.length_eq;omega⟩
 ·have hd:=td i hi
  cases hτ:τ i with
  | some s =>
   right
   refine ⟨s,rfl,?_⟩
   rw [hd,hτ];rfl
  | none =>
   left
   refine ⟨rfl,?_⟩
   show gd done i=_
   rw [hd,hτ]
   have:cn (gd r.Times i) (wHV L L.length)=(gd r.Times i).length:=by
    refine List.countP_eq_length.2 fun x hx=>?_
    have hxl:x ∈ L:=(hT.all x).2 ⟨_,wAs (by omega),hx⟩
    obtain ⟨q,hq,eq⟩:=nE hxl
    rw [<- wDb hq] at eq
    unfold wHV
    rw [if_neg (by omega),<- eq]
    by_cases c:q=L.length - 1
    ·subst c;simp
    ·have:=nA.1 hT.inc q (L.length - 1) hq (by omega) (by omega)
     rw [<- wDb hq,<- wDb (by omega)] at this
     simp;omega
   rw [kR,this]
 ·obtain ⟨o,ho,e⟩:=te.all i hi h
  exact ⟨o,hp.mem_iff.2 ho,e⟩
 ·have nd:=(hp.map (·.Bib)).nodup_iff.2 te.one
  refine (so.and (nS.1 (nL.1 nd))).imp fun {a b} h=>?_
  obtain ⟨h1,h2⟩:=h
  rw [lt] at h1
  simp only [na,decide_eq_false_iff_not] at h1 ⊢
  simp only [ltO] at h1 ⊢
  omega
end Go.Proofs.YtlmekamhphnmjaaGreat
namespace Go.Proofs.YtlmekamhphnmjaaGreat
open Go.KL
theorem wJz {K V:Type} [DecidableEq K] {m:List (K × V)} {x y:K} {v:V}:wId (wFX m x v) y=if y=x then some v else wId m y:=by
 induction m with
 | nil=>simp only [wFX,wId]
 | cons p m ih =>
  obtain ⟨a,u⟩:=p
  rw [wFX]
  by_cases h:x=a
  ·subst h
   rw [if_pos rfl,wId,wId]
   split <;> rfl
  ·rw [if_neg h,wId,wId,ih]
   by_cases h2:y=a
   ·rw [if_pos h2,if_neg (fun e:y=x=>h (e.symm.trans h2)),if_pos h2]
   ·rw [if_neg h2,if_neg h2]
theorem wNh {l:List Int} (hl:l.length <= 1000) (hd:l.Nodup):wER l=some false:=by
 unfold wER
 rw [wEF (by omega)]
 have key:∀ (m k:Nat) (t:List (Int × Bool)),k + m=l.length->(∀ n,wDn t n false=decide (n ∈ l.take k)) ->
   jn (forN (fun k20 l17 =>
  (idx l (↑k20:Int)).bind fun x41 =>
  if (wDn l17 x41 false)=true then
   esc (some true)
  else
   some (.inl (wFX l17 x41 true))) m k t) (fun _=>some false)=some false:=by
  intro m
  induction m with
  | zero=>intro k t _ _;rfl
  | succ m ih =>
   intro k t hk ht
   have hlt:k < l.length:=by omega
   have c:gd l k ∉ l.take k:=fun c=>by
    rw [<- nk k l,wGh hlt] at hd
    exact (kK.1 hd).2.2 _ c _ (by simp) rfl
   rw [forN,wBB hlt,hD,ht,if_neg (by simpa using c)]
   simp only
   refine ih (k + 1) _ (by omega) fun n=>?_
   unfold wDn at ht ⊢
   rw [wJz,wDE hlt]
   by_cases e:n=gd l k
   ·rw [if_pos e];simp [e]
   ·rw [if_neg e,ht];simp [e]
 exact key l.length 0 [] (by omega) (fun n=>by simp [wDn,wId])
theorem wFg {n lo hi:Int} (h1:lo <= n) (h2:n <= hi):wEd n lo hi=some true:=by
 unfold wEd
 rw [if_pos h1]
 simp [h2]
theorem wKA {l:List (List Int)} {f:List Int->Option Bool} (hn:l.length <= 1000) (h:∀ a ∈ l,f a=some true):wDK l f=some true:=by
 unfold wDK
 rw [wEm (by omega) fun k hk=>?_]
 ·rfl
 ·rw [wBB hk,hD,h _ (wAs hk)]
  rfl
theorem wKB {l:List Int} {f:Int->Option Bool} (hn:l.length <= 1000) (h:∀ a ∈ l,f a=some true):wCH l f=some true:=by
 unfold wCH
 rw [wEm (by omega) fun k hk=>?_]
 ·rfl
 ·rw [wBB hk,hD,h _ (wAs hk)]
  rfl
structure wNi (r:wAT):Prop where
 g:wLl r
 laps:1 <= r.Laps/\r.Laps <= 20
 le:∀ l ∈ r.Times,(l.length:Int) <= r.Laps
 bib:∀ b ∈ r.Bibs,1 <= b/\b <= 999
theorem wLL {r:wAT} (G:wNi r):wCd r=some 0:=by
  unfold wCd
  have h1:=G.laps;have h2:=G.g.n;have h3:=G.g.t
  rw [wFg h1.1 h1.2,hD,if_pos rfl,if_neg (by omega),if_pos (by omega),wKA (by omega) fun X hX=>?_,hD,if_pos rfl,wKB (by omega) fun b hb=>?_,hD,if_pos rfl,wKA (by omega) fun X hX=>?_,hD,if_pos rfl,wNh (by omega) G.g.one,hD,if_neg (by decide),wEm (by omega) fun k hk=>?_]
  · rfl
  · have hXm:=wAs hk
    rw [wBB hk,hD]
    have hl:=G.g.len _ hXm
    have hpw:=G.g.inc _ hXm
    generalize gd r.Times k=X at hl hpw
    have hle:((X.length:Int) - 1).toNat <= 9223372036854775807:=by omega
    have key:wGR 1 (X.length:Int) (fun k132 (_:Unit) =>
                    (idx X (1 + ↑k132:Int)).bind fun x155 =>
                    (idx X (w64 ((1 + ↑k132:Int) - 1))).bind fun x163 =>
                    if x155 <= x163 then
                      esc (esc (some 4))
                    else
                      (some (.inl ()):Option (Unit ⊕ (Unit ⊕ Int)))) ()=some (.inl ()):=by
      unfold wGR
      rw [if_pos (by omega)]
      have:=wJN (S:=Unit) (B:=Unit ⊕ Int) (body:=fun k132 (_:Unit) =>
                    (idx X (1 + ↑k132:Int)).bind fun x155 =>
                    (idx X (w64 ((1 + ↑k132:Int) - 1))).bind fun x163 =>
                    if x155 <= x163 then
                      esc (esc (some 4))
                    else
                      some (.inl ())) (fun _=>()) ((X.length:Int) - 1).toNat 0 fun j _ hj=>by
        have e1:(1 + (j:Int))=((j + 1:Nat):Int):=by omega
        rw [wAa (by omega) (by omega),e1,show ((j + 1:Nat):Int) - 1=(j:Int) by omega,wBB (by omega),hD,wBB (by omega),hD,if_neg]
        have:=nA.1 hpw j (j + 1) (by omega) (by omega) (by omega)
        have a1:=wBY (xs:=X) (k:=j) (by omega)
        have a2:=wBY (xs:=X) (k:=j + 1) (by omega)
        rw [np (by omega)] at a1 a2
        rw [<- ni a1,<- ni a2]
        omega
      exact this
    rw [key]
    rfl
  · have:=G.g.len X hX
    have hr:=G.g.pos X hX
    unfold wCJ
    rw [wKB (by omega) fun a ha=>?_]
    · rfl
    · unfold wBt
      have:=hr a ha
      rw [wFg (by omega) (by omega)]
      rfl
  · have:=G.bib b hb
    unfold wCI
    rw [wFg this.1 this.2]
    rfl
  · have:=G.le X hX
    unfold wCG
    simp only [Option.some.injEq,decide_eq_true_eq]
    exact this
theorem wKC {r:wAT} (G:wNi r) {p:wAK} {A:List wAN} (h:wDB r=some (p,A)):wDC r=some (A,0):=by
 unfold wDC
 rw [wLL G,hD,if_pos rfl,h];rfl
end Go.Proofs.YtlmekamhphnmjaaGreat
namespace Go.Proofs.YtlmekamhphnmjaaGreat
open Go.KL
theorem wLm {r:wAT} (G:wNi r) {p:wAK} {A:List wAN} (h:wDB r=some (p,A)):wDL r=some (p.done,0):=by
 unfold wDL
 rw [wLL G,hD,if_pos rfl,h];rfl
end Go.Proofs.YtlmekamhphnmjaaGreat
namespace Go.Proofs.YtlmekamhphnmjaaGreat
open Go.KL
theorem wOm {r:wAS} (g:wIS r):wNi (wEp r):=by
 have hn:=g.n;have hs:=g.start
 have hc:=g.rules.n;have hl:=g.rules.laps
 obtain ⟨L,hL⟩:=Int.eq_ofNat_of_zero_le (show 0 <= r.Rules.Laps by omega)
 have hL5:L <= 5:=by omega
 have e:∀ l ∈ (wEp r).Times,∃ t,t ∈ r.Teams/\l=wEY r.Rules t.Legs r.Start:=fun l h=>by
  obtain ⟨t,ht,e⟩:=nR.1 h
  exact ⟨t,ht,e.symm⟩
 have hlen:∀ l ∈ (wEp r).Times,l.length <= r.Rules.Classes.length * L:=fun l h=>by
  obtain ⟨t,ht,rfl⟩:=e l h
  have gt:=g.team t ht
  exact kZ (wIu hL t.Legs r.Start gt.leg) (Nat.mul_le_mul_right L gt.legs)
 have h20:r.Rules.Classes.length * L <= 20:=kZ (Nat.mul_le_mul hc.2 hL5) (by omega)
 have hLaps:(wEp r).Laps=((r.Rules.Classes.length * L:Nat):Int):=by
  show (r.Rules.Classes.length:Int) * r.Rules.Laps=_
  rw [hL];simp
 have h1:1 <= r.Rules.Classes.length * L:=Nat.mul_pos hc.1 (by omega)
 refine ⟨⟨?_,?_,fun l h=>by have:=hlen l h;omega,fun l h=>?_,fun l h x hx=>?_,g.bibs⟩,⟨by rw [hLaps];omega,by rw [hLaps];omega⟩,fun l h=>by rw [hLaps];have:=hlen l h;omega,fun b hb=>?_⟩
 ·show (r.Teams.map _).length <= 60
  rw [nD];omega
 ·show (after r).length=(r.Teams.map _).length
  unfold after
  rw [nD,nD]
 ·obtain ⟨t,ht,rfl⟩:=e l h
  exact (wJR g.rules t.Legs r.Start (g.team t ht).leg).1
 ·obtain ⟨t,ht,rfl⟩:=e l h
  have:=(wJR g.rules t.Legs r.Start (g.team t ht).leg).2 x hx
  have:=(g.team t ht).legs
  omega
 ·obtain ⟨t,ht,rfl⟩:=nR.1 hb
  exact (g.team t ht).bib
def un (b:List Bool):Int:=if wFu b < 5 then 8 - (b.length:Int) else 0
def unB:List (List Bool)->Int
 | []=>0
 | b :: l=>un b + unB l
def unT:List wAR->Int
 | []=>0
 | l :: r=>unB l.Bouts + unT r
theorem wJS {b:List Bool} (h:okB b):0 <= un b/\un b <= 3:=by
 have:=h.1;have:=h.2.1
 unfold un
 split <;> omega
theorem wLM (b:List Bool):∀ l:List (List Bool),unB (l ++ [b])=unB l + un b
 | []=>by simp [unB]
 | a :: l=>by rw [nW,unB,unB,wLM b l];omega
theorem wLN (b:wAR):∀ l:List wAR,unT (l ++ [b])=unT l + unB b.Bouts
 | []=>by simp [unT]
 | a :: l=>by rw [nW,unT,unT,wLN b l];omega
theorem wIW:∀ {l:List (List Bool)},(∀ b ∈ l,okB b)->0 <= unB l/\unB l <= 3 * (l.length:Int)
 | [],_=>by simp [unB]
 | a :: l,h=>by
  have h1:=wJS (h a (by simp))
  have h2:=wIW (l:=l) fun b hb=>h b (by simp [hb])
  rw [unB,nB]
  omega
theorem wLO {p:wAL} (gp:wEq p) {t:wAJ} {l:wAR} (g:wHS p t l):l.Bouts.length <= 4:=by
 have:=g.bouts;have:=g.le;have:=gp.laps
 omega
theorem wIX {p:wAL} (gp:wEq p) {t:wAJ}:∀ {l:List wAR},(∀ a ∈ l,wHS p t a)->0 <= unT l/\unT l <= 12 * (l.length:Int)
 | [],_=>by simp [unT]
 | a :: l,h=>by
  have ga:=h a (by simp)
  have h1:=wIW ga.ok
  have h3:=wLO gp ga
  have h2:=wIX gp (l:=l) fun b hb=>h b (by simp [hb])
  rw [unT,nB]
  omega
theorem wMq {p:wAL} (gp:wEq p) {t:wAJ} (g:wOd p t):wCK t=some (unT t.Legs):=by
 unfold wCK
 have hl:=g.legs;have hc:=gp.n
 rw [wDU (S:=Int) (n:=t.Legs.length) (fun k=>unT (t.Legs.take k)) (s0:=0) rfl (by omega) fun k hk=>?_]
 ·rw [hD,nH]
 ·have gl:=g.leg _ (wAs hk)
  have h4:=wLO gp gl
  have hr:=wIX gp (l:=t.Legs.take k) fun a ha=>g.leg a (nb ha)
  rw [nX] at hr
  rw [wBB hk,hD]
  rw [wDU (S:=Int) (n:=(gd t.Legs k).Bouts.length) (fun j=>unT (t.Legs.take k) + unB ((gd t.Legs k).Bouts.take j)) (s0:=unT (t.Legs.take k)) (by simp [unB]) (by omega) fun j hj=>?_]
  ·rw [hD,nH,wDE hk,wLN]
  ·have ho:=gl.ok _ (wAs hj)
   have hb:=wIW (l:=(gd t.Legs k).Bouts.take j) fun b hb=>gl.ok b (nb hb)
   have hu:=wJS ho
   rw [nX] at hb
   rw [wBB hj,hD,wJM ho,hD]
   show (if _=(⟨0,0,0⟩:wAj) then _ else some (w64 (_ + un (gd (gd t.Legs k).Bouts j))))=_
   rw [wDE hj,wLM]
   by_cases e:(⟨((gd (gd t.Legs k).Bouts j).length:Int) - 5,5 - (wFu (gd (gd t.Legs k).Bouts j):Int),un (gd (gd t.Legs k).Bouts j)⟩:wAj)=⟨0,0,0⟩
   ·have e3:un (gd (gd t.Legs k).Bouts j)=0:=congrArg wAj.Unused e
    refine (if_pos e).trans ?_
    rw [e3,Int.add_zero]
   ·refine (if_neg e).trans ?_
    rw [wAa (by omega) (by omega),Int.add_assoc]
theorem cmpI (x y:Int):wAh x y=some (if x < y then -1 else if y < x then 1 else 0):=by
 unfold wAh wCh
 simp only [not_true_eq_false,decide_false,hD,kI,if_false]
 split
 ·rfl
 ·split <;> rfl
theorem orI (x y:Int):wCx [x,y]=some (if x=0 then y else x):=by
 unfold wCx
 rw [wEF (by simp)]
 show jn (forN _ 2 0 ()) _=_
 have i0:idx [x,y] ((0:Nat):Int)=some x:=rfl
 have i1:idx [x,y] ((0 + 1:Nat):Int)=some y:=rfl
 simp only [forN,i0,i1,hD]
 by_cases c:x=0
 ·simp only [if_pos c]
  by_cases d:y=0
  ·simp only [if_pos d,d];rfl
  ·simp only [if_neg d];rfl
 ·simp only [if_neg c];rfl
def lt2 {α:Type} (k1 k2:α->Int) (a b:α):Prop:=k1 a < k1 b \/ k1 a=k1 b/\k2 a < k2 b
instance {α:Type} (k1 k2:α->Int) (a b:α):Decidable (lt2 k1 k2 a b):=by unfold lt2;exact inferInstance
def wPH {α:Type} (k1 k2:α->Int) (a b:α):Int:=if k1 a < k1 b then -1 else if k1 b < k1 a then 1 else if k2 a < k2 b then -1 else if k2 b < k2 a then 1 else 0
theorem wPh {α:Type} {h:α × α->Option Int} (k1 k2:α->Int) (hh:∀ a b,h (a,b)=some (wPH k1 k2 a b)) {l:List α} (hl:l.length <= 100000) (nd:(l.map k2).Nodup):∃ m,wIg h l=some m/\m.Perm l/\m.Pairwise (lt2 k1 k2):=by
 have lt:∀ a b:α,ltB h a b=decide (lt2 k1 k2 a b):=fun a b=>by
  unfold ltB lt2
  rw [hh]
  unfold wPH
  by_cases c1:k1 a < k1 b
  ·simp [c1]
  ·by_cases c2:k1 b < k1 a
   ·simp [c1,c2];omega
   ·have c3:k1 a=k1 b:=by omega
    by_cases c4:k2 a < k2 b
    ·simp [c3,c4]
    ·by_cases c5:k2 b < k2 a <;> simp [c3,c4,c5]
 have one:∀ x ∈ l,∀ y ∈ l,k2 x=k2 y->x=y:=fun x hx y hy e=>by
  obtain ⟨i,hi,ei⟩:=nE hx
  obtain ⟨j,hj,ej⟩:=nE hy
  have pw:=nA.1 (nL.1 nd)
  rcases nv i j with c | c | c
  ·have:=pw i j (by simpa using hi) (by simpa using hj) c
   rw [nJ,nJ,ei,ej] at this
   exact absurd e this
  ·subst c;rw [<- ei,<- ej]
  ·have:=pw j i (by simpa using hj) (by simpa using hi) c
   rw [nJ,nJ,ei,ej] at this
   exact absurd e.symm this
 have C:Cmp h l:=by
  refine ⟨by omega,fun x _ y _=>by rw [hh];rfl,fun x _=>by rw [lt];simp [lt2],fun x _ y _ w _ a b=>?_,fun x _ y _ w _ a b=>?_,fun x hx y hy a b=>?_⟩
  ·rw [lt] at a b ⊢
   simp only [decide_eq_true_iff] at a b ⊢
   simp only [lt2] at a b ⊢
   omega
  ·rw [lt] at a b ⊢
   simp only [decide_eq_false_iff_not] at a b ⊢
   simp only [lt2] at a b ⊢
   omega
  ·rw [lt] at a b
   simp only [decide_eq_false_iff_not] at a b
   simp only [lt2] at a b
   exact one x hx y hy (by omega)
 have hp:=kE l fun x y=>!ltB h y x
 have so:=nu (le:=fun x y:α=>!ltB h y x) (fun a b c h1 h2=>by
   rw [lt] at h1 h2 ⊢
   simp only [na,decide_eq_false_iff_not] at h1 h2 ⊢
   simp only [lt2] at h1 h2 ⊢
   omega) (fun a b=>by
   rw [lt,lt]
   simp only [Bool.or_eq_true,na,decide_eq_false_iff_not]
   simp only [lt2]
   omega) l
 refine ⟨_,wJB C,hp,?_⟩
 generalize l.mergeSort (fun x y=>!ltB h y x)=m at hp so
 have nd2:=(hp.map k2).nodup_iff.2 nd
 refine (so.and (nS.1 (nL.1 nd2))).imp fun {a b} h=>?_
 obtain ⟨h1,h2⟩:=h
 rw [lt] at h1
 simp only [na,decide_eq_false_iff_not] at h1 ⊢
 simp only [lt2] at h1 ⊢
 omega
theorem wLn {α:Type} {k1 k2:α->Int} {l m:List α} (hl:l.Pairwise (lt2 k1 k2)) (hm:m.Pairwise (lt2 k1 k2)) (hp:l.Perm m):l=m :=
 List.Perm.eq_of_pairwise (le:=lt2 k1 k2) (fun a b _ _ h1 h2=>by unfold lt2 at h1 h2;omega) hl hm hp
theorem cmpR1 (a b:wAD):wBe a b=some (wPH (·.Time) (·.Bib) a b):=by
 unfold wBe wPH
 rw [cmpI,hD,cmpI,hD,orI,hD]
 by_cases c1:a.Time < b.Time
 ·simp [c1]
 ·by_cases c2:b.Time < a.Time
  ·simp [c1,c2]
  ·simp only [c1,c2,if_false,if_true]
theorem cmpR2 (M:List (Int × Int)) (a b:wAD):wBf a b M=some (wPH (fun x=>-(wDn M x.Bib 0)) (·.Bib) a b):=by
 unfold wBf wPH
 rw [cmpI,hD,cmpI,hD,orI,hD]
 simp only
 generalize wDn M a.Bib 0=x
 generalize wDn M b.Bib 0=y
 by_cases c1:y < x
 ·rw [if_pos c1,if_pos (show -x < -y by omega)];simp
 ·by_cases c2:x < y
  ·rw [if_neg c1,if_pos c2,if_neg (show ¬ -x < -y by omega),if_pos (show -y < -x by omega)];simp
  ·rw [if_neg c1,if_neg c2,if_neg (show ¬ -x < -y by omega),if_neg (show ¬ -y < -x by omega)];simp
end Go.Proofs.YtlmekamhphnmjaaGreat
namespace Go.Proofs.YtlmekamhphnmjaaGreat
open Go.KL
structure Rc where
 bib:Int
 fin:Bool
 time:Int
 done:Int
instance:Inhabited Rc:=⟨⟨0,false,0,0⟩⟩
def wJd (r:wAS) (A:List wAN) (D:List Int) (k:Nat):Rc :=
 ⟨(gd r.Teams k).Bib,!(A.any fun o=>decide (o.Bib=(gd r.Teams k).Bib)) && decide (((gd (after r) k).length:Int)=(wEp r).Laps),gd (gd (after r) k) ((wEp r).Laps - 1).toNat + unT (gd r.Teams k).Legs * r.Rules.Unused,gd D k⟩
def wIY (r:wAS) (A:List wAN) (D:List Int):List Rc:=(nM r.Teams.length).map (wJd r A D)
def finR (x:Rc):wAD:=⟨x.bib,0,x.time⟩
def othR (x:Rc):wAD:=⟨x.bib,0,0⟩
def wKi (l:List Rc):List wAD:=(l.filter fun x=>x.fin).map finR
def wLo (l:List Rc):List wAD:=(l.filter fun x=>!x.fin).map othR
def wKj (l:List Rc):List (Int × Int):=l.foldl (fun m x=>wFX m x.bib x.done) []
theorem wLp (l:List Rc) (x:Rc):wKj (l ++ [x])=wFX (wKj l) x.bib x.done:=by unfold wKj;rw [kd];rfl
theorem wMr (r:wAS) (A:List wAN) (D:List Int):(wIY r A D).map (·.bib)=r.Teams.map (·.Bib):=by
 unfold wIY
 rw [nq]
 refine List.ext_getElem (by simp) fun i h1 h2=>?_
 simp only [nJ,List.getElem_range,Function.comp,wJd]
 rw [wDb (by simpa using h2)]
theorem wHt (r:wAS) (A:List wAN) (D:List Int):(wIY r A D).length=r.Teams.length:=by simp [wIY]
theorem wMs (r:wAS) (A:List wAN) (D:List Int) {k:Nat} (hk:k < r.Teams.length):(wIY r A D).take (k + 1)=(wIY r A D).take k ++ [wJd r A D k]:=by
 unfold wIY
 rw [<- kY,<- kY,List.take_range,List.take_range,Nat.min_eq_left (by omega),Nat.min_eq_left (by omega),nm,nP]
 rfl
theorem wMt (l:List Rc) (x:Rc):wKi (l ++ [x])=if x.fin=true then wKi l ++ [finR x] else wKi l:=by
 unfold wKi
 rw [nY]
 by_cases h:x.fin=true <;> simp [h]
theorem wMu (l:List Rc) (x:Rc):wLo (l ++ [x])=if x.fin=true then wLo l else wLo l ++ [othR x]:=by
 unfold wLo
 rw [nY]
 by_cases h:x.fin=true <;> simp [h]
theorem wLP (l:List Rc):(wKi l).length <= l.length:=by
 unfold wKi;rw [nD];exact kA _ _
theorem wLQ (l:List Rc):(wLo l).length <= l.length:=by
 unfold wLo;rw [nD];exact kA _ _
theorem wNj (l:List Rc):(wKi l).map (·.Bib)=(l.filter fun x=>x.fin).map (·.bib):=by unfold wKi;rw [nq];rfl
theorem wNk (l:List Rc):(wLo l).map (·.Bib)=(l.filter fun x=>!x.fin).map (·.bib):=by unfold wLo;rw [nq];rfl
theorem wPi {l:List Rc} (nd:(l.map (·.bib)).Nodup):((wKi l).map (·.Bib)).Nodup:=by
 rw [wNj];exact nd.sublist (kF.map _)
theorem wPj {l:List Rc} (nd:(l.map (·.bib)).Nodup):((wLo l).map (·.Bib)).Nodup:=by
 rw [wNk];exact nd.sublist (kF.map _)
def plc (F:List wAD):Nat->Int
 | 0=>1
 | i + 1=>if (gd F (i + 1)).Time=(gd F i).Time then plc F i else (i:Int) + 2
def wFn (F:List wAD):List wAD:=(nM F.length).map fun i=>⟨(gd F i).Bib,plc F i,(gd F i).Time⟩
theorem wFW (F:List wAD):(wFn F).length=F.length:=by simp [wFn]
theorem wKD {F:List wAD} {i:Nat} (h:i < F.length):gd (wFn F) i=⟨(gd F i).Bib,plc F i,(gd F i).Time⟩:=by
 unfold wFn
 rw [wDb (by simpa using h)]
 simp
theorem wKE (F:List wAD):∀ i,1 <= plc F i/\plc F i <= i + 1
 | 0=>by simp [plc]
 | i + 1=>by
  have:=wKE F i
  rw [plc]
  split <;> omega
def pB:Nat->List wAD->Option (List wAD):=fun k550 l549 =>
        (chk (↑k550:Int) l549.length).bind fun _ =>
        if 0 < (↑k550:Int) then
          (chk (↑k550:Int) (hM l549 k550 (⟨(gd l549 k550).Bib,(↑(k550 + 1):Int),(gd l549 k550).Time⟩:wAD)).length).bind fun _ =>
          (chk (w64 ((↑k550:Int) - 1)) (hM l549 k550 (⟨(gd l549 k550).Bib,(↑(k550 + 1):Int),(gd l549 k550).Time⟩:wAD)).length).bind fun _ =>
          if ((gd (hM l549 k550 (⟨(gd l549 k550).Bib,(↑(k550 + 1):Int),(gd l549 k550).Time⟩:wAD)) k550).Time)=((gd (hM l549 k550 (⟨(gd l549 k550).Bib,(↑(k550 + 1):Int),(gd l549 k550).Time⟩:wAD)) (w64 ((↑k550:Int) - 1)).toNat).Time) then
            some (hM (hM l549 k550 (⟨(gd l549 k550).Bib,(↑(k550 + 1):Int),(gd l549 k550).Time⟩:wAD)) k550 (⟨(gd (hM l549 k550 (⟨(gd l549 k550).Bib,(↑(k550 + 1):Int),(gd l549 k550).Time⟩:wAD)) k550).Bib,(gd (hM l549 k550 (⟨(gd l549 k550).Bib,(↑(k550 + 1):Int),(gd l549 k550).Time⟩:wAD)) (w64 ((↑k550:Int) - 1)).toNat).Place,(gd (hM l549 k550 (⟨(gd l549 k550).Bib,(↑(k550 + 1):Int),(gd l549 k550).Time⟩:wAD)) k550).Time⟩:wAD))
          else
            some (hM l549 k550 (⟨(gd l549 k550).Bib,(↑(k550 + 1):Int),(gd l549 k550).Time⟩:wAD))
        else
          some (hM l549 k550 (⟨(gd l549 k550).Bib,(↑(k550 + 1):Int),(gd l549 k550).Time⟩:wAD))
theorem wKk {α:Type} [Inhabited α] {l:List α} {i k:Nat} {x:α} (hi:i < l.length) (hk:k < l.length):gd (l.set i x) k=if k=i then x else gd l k:=by
 have h1:=wBY (xs:=l.set i x) (k:=k) (by rw [nN];exact hk)
 rw [ke] at h1
 by_cases e:i=k
 ·subst e
  rw [if_pos rfl,if_pos hi] at h1
  rw [if_pos rfl];exact (ni h1).symm
 ·rw [if_neg e,wBY hk] at h1
  rw [if_neg (fun h=>e h.symm)];exact (ni h1).symm
theorem wMv {F:List wAD} (hF:F.length <= 1000):wCM 0 (↑F.length:Int) pB F=some (wFn F):=by
 obtain ⟨s,e,h1,h2⟩:=wEO (body:=pB) (n:=F.length) (s0:=F) (fun k s=>s.length=F.length/\∀ i,i < F.length->gd s i=if i < k then ⟨(gd F i).Bib,plc F i,(gd F i).Time⟩ else gd F i) hF ⟨rfl,fun i hi=>by rw [if_neg (by omega)]⟩ (fun k s hk ⟨hl,hs⟩=>by
  have hkk:gd s k=gd F k:=by rw [hs k hk,if_neg (by omega)]
  unfold pB
  rw [wDy (by omega) (by omega),hD,hkk]
  have g1:∀ x i,i < F.length->gd (s.set k x) i=if i=k then x else gd s i:=fun x i hi=>wKk (by omega) (by omega)
  by_cases c:0 < k
  ·have gk:∀ x,gd (s.set k x) k=x:=fun x=>by rw [g1 _ k hk,if_pos rfl]
   have gp:∀ x,gd (s.set k x) (k - 1)=gd s (k - 1):=fun x=>by rw [g1 _ (k - 1) (by omega),if_neg (by omega)]
   have ek:(w64 ((k:Int) - 1)).toNat=k - 1:=by rw [wAa (by omega) (by omega)];omega
   have hk1:gd s (k - 1)=⟨(gd F (k - 1)).Bib,plc F (k - 1),(gd F (k - 1)).Time⟩:=by rw [hs _ (by omega),if_pos (by omega)]
   rw [if_pos (by omega),wDy (by omega) (by rw [nN];omega),hD,wDy (by rw [wAa (by omega) (by omega)];omega) (by rw [wAa (by omega) (by omega),nN];omega),hD,ek,gk,gp,hk1]
   simp only
   have pk:plc F k=if (gd F k).Time=(gd F (k - 1)).Time then plc F (k - 1) else (k:Int) + 1:=by
    obtain ⟨m,rfl⟩:∃ m,k=m + 1:=⟨k - 1,by omega⟩
    rw [plc,kc]
    split
    ·rfl
    ·omega
   by_cases d:(gd F k).Time=(gd F (k - 1)).Time
   ·rw [if_pos d]
    refine ⟨_,rfl,by simp [hl],fun i hi=>?_⟩
    rw [wKk (by rw [nN];omega) (by rw [nN];omega),g1 _ i hi]
    by_cases ei:i=k
    ·subst ei
     rw [if_pos rfl,if_pos (by omega),pk,if_pos d]
    ·rw [if_neg ei,if_neg ei,hs i hi]
     by_cases c2:i < k
     ·rw [if_pos c2,if_pos (by omega)]
     ·rw [if_neg c2,if_neg (by omega)]
   ·rw [if_neg d]
    refine ⟨_,rfl,by simp [hl],fun i hi=>?_⟩
    rw [g1 _ i hi]
    by_cases ei:i=k
    ·subst ei
     rw [if_pos rfl,if_pos (by omega),pk,if_neg d]
     congr 1
    ·rw [if_neg ei,hs i hi]
     by_cases c2:i < k
     ·rw [if_pos c2,if_pos (by omega)]
     ·rw [if_neg c2,if_neg (by omega)]
  ·rw [if_neg (by omega)]
   have k0:k=0:=by omega
   subst k0
   refine ⟨_,rfl,by simp [hl],fun i hi=>?_⟩
   rw [g1 _ i hi]
   by_cases ei:i=0
   ·subst ei
    rw [if_pos rfl,if_pos (by omega)]
    rfl
   ·rw [if_neg ei,hs i hi,if_neg (by omega),if_neg (by omega)])
 rw [e]
 congr 1
 refine wOG (by rw [h1,wFW]) fun i hi=>?_
 rw [h2 i (by omega),if_pos (by omega),wKD (by omega)]
abbrev RS2:=List (Int × Int) × List wAD × List wAD
def rsB (r:wAS) (L:Int) (x99:List Int) (y149:List (Int × Bool)):Nat->RS2->Option RS2:=fun k258 (l247,l250,l254) =>
        (idx r.Teams (↑k258:Int)).bind fun x293 =>
        (chk (↑k258:Int) x99.length).bind fun _ =>
        if (wDn y149 x293.Bib false)=true then
          (app 24 l254 [(⟨x293.Bib,0,0⟩:wAD)]).bind fun x346 =>
          some ((wFX l247 x293.Bib (gd x99 k258)),l250,x346)
        else
          (idx (after r) (↑k258:Int)).bind fun x364 =>
          if (↑x364.length:Int) < L then
            (app 24 l254 [(⟨x293.Bib,0,0⟩:wAD)]).bind fun x390 =>
            some ((wFX l247 x293.Bib (gd x99 k258)),l250,x390)
          else
            (idx x364 (w64 (L - 1))).bind fun x434 =>
            (wCK x293).bind fun x441 =>
            (app 24 l250 [(⟨x293.Bib,0,w64 (x434 + (w64 (x441 * r.Rules.Unused)))⟩:wAD)]).bind fun x456 =>
            some ((wFX l247 x293.Bib (gd x99 k258)),x456,l254)
theorem wLq {r:wAS} (g:wIS r):wCi r =
      (wBs ⟨r,after r⟩).bind fun x46 =>
      (wDC x46).bind fun (x83,_) =>
      (wDL x46).bind fun (x99,_) =>
      (wCM 0 (↑x83.length:Int) (fun k144 l141 =>
        (chk (↑k144:Int) x83.length).bind fun _ =>
        some (wFX l141 ((gd x83 k144).Bib) true)) ([]:List (Int × Bool))).bind fun y149 =>
      (wCM 0 (↑r.Teams.length:Int) (rsB r x46.Laps x99 y149) (([]:List (Int × Int)),[],[])).bind fun (y263,y264,y265) =>
      (wAd y264 (fun x=>wBe x.1 x.2)).bind fun x508 =>
      (wAd y265 (fun x=>wBf x.1 x.2 y263)).bind fun x532 =>
      (wCM 0 (↑x508.length:Int) pB x508).bind fun y555 =>
      (app 24 y555 x532).bind fun x615 =>
      some (x615,(0:Int)):=by
  unfold wCi
  rw [wJQ g,hD]
  rfl
theorem wMw {r:wAS} (g:wIS r):wBs ⟨r,after r⟩=some (wEp r):=wOg g
theorem wKF:∀ (A:List wAN) (m:List (Int × Bool)) (b:Int),wDn (A.foldl (fun m o=>wFX m o.Bib true) m) b false=((A.any fun o=>decide (o.Bib=b)) || wDn m b false)
 | [],_,_=>by simp
 | o :: A,m,b=>by
  rw [List.foldl_cons,wKF A,kW]
  unfold wDn
  rw [wJz]
  by_cases c:b=o.Bib
  ·rw [if_pos c,decide_eq_true c.symm];simp
  ·rw [if_neg c,decide_eq_false (fun h=>c h.symm)];simp
theorem wNl {A:List wAN} (hA:A.length <= 100000):(wCM 0 (↑A.length:Int) (fun k144 l141 =>
        (chk (↑k144:Int) A.length).bind fun _ =>
        some (wFX l141 ((gd A k144).Bib) true)) ([]:List (Int × Bool)))=some (A.foldl (fun m o=>wFX m o.Bib true) []):=by
  rw [wDU (S:=List (Int × Bool)) (n:=A.length) (fun k=>(A.take k).foldl (fun m o=>wFX m o.Bib true) []) (s0:=[]) rfl (by omega) fun k hk=>?_]
  · rw [nH]
  · rw [wDy (by omega) (by omega),hD,wDE hk,kd];rfl
structure ResP (rs:List Rc) (F O:List wAD):Prop where
 fp:F.Perm (wKi rs)
 fo:F.Pairwise (lt2 (·.Time) (·.Bib))
 op:O.Perm (wLo rs)
 oo:O.Pairwise (lt2 (fun x=>-(wDn (wKj rs) x.Bib 0)) (·.Bib))
theorem wLr {r:wAS} (g:wIS r) {p:wAK} {A:List wAN} {τ:Nat->Option Int} (e:wDB (wEp r)=some (p,A)) (R:RunP (wEp r) p.done A τ) :
  ∃ F O,wCi r=some (wFn F ++ O,0)/\ResP (wIY r A p.done) F O:=by
 have W:=wOm g
 have hn:=g.n
 have hb:(wEp r).Bibs.length=r.Teams.length:=by show (r.Teams.map _).length=_;rw [nD]
 have hal:(after r).length=r.Teams.length:=by unfold after;rw [nD]
 have nd:((wIY r A p.done).map (·.bib)).Nodup:=by rw [wMr];exact g.bibs
 rw [wLq g,wMw g,hD,wKC W e,hD]
 simp only
 rw [wLm W e,hD]
 simp only
 rw [wNl R.al,hD]
 rw [wDU (S:=RS2) (n:=r.Teams.length) (fun k=>(wKj ((wIY r A p.done).take k),wKi ((wIY r A p.done).take k),wLo ((wIY r A p.done).take k))) (s0:=([],[],[])) rfl (by omega) fun k hk=>?_]
 ·rw [hD]
  simp only
  rw [<- wHt r A p.done,nH]
  have hlen:=wHt r A p.done
  have hfl:=wLP (wIY r A p.done)
  have hol:=wLQ (wIY r A p.done)
  obtain ⟨F,e1,f1,f2⟩:=wPh (h:=fun x=>wBe x.1 x.2) (·.Time) (·.Bib) (fun a b=>cmpR1 a b) (l:=wKi (wIY r A p.done)) (by omega) (wPi nd)
  obtain ⟨O,e2,o1,o2⟩:=wPh (h:=fun x=>wBf x.1 x.2 (wKj (wIY r A p.done))) (fun x=>-(wDn (wKj (wIY r A p.done)) x.Bib 0)) (·.Bib) (fun a b=>cmpR2 _ a b) (l:=wLo (wIY r A p.done)) (by omega) (wPj nd)
  have lf:=f1.length_eq
  have lo:=o1.length_eq
  unfold wAd
  rw [e1,hD,e2,hD,wMv (by omega),hD,wDV (by rw [wFW];omega),hD]
  exact ⟨F,O,rfl,f1,f2,o1,o2⟩
 ·have gt:=g.team _ (wAs hk)
  have hfl:=wLP ((wIY r A p.done).take k)
  have hol:=wLQ ((wIY r A p.done).take k)
  rw [nX,wHt] at hfl hol
  unfold rsB
  simp only
  rw [wBB hk,hD,wDy (by omega) (by rw [R.dl,hb];omega),hD,wKF,wMs r A p.done hk,wLp,wMt,wMu]
  have m0:wDn ([]:List (Int × Bool)) (gd r.Teams k).Bib false=false:=rfl
  rw [m0,Bool.or_false]
  by_cases c:(A.any fun o=>decide (o.Bib=(gd r.Teams k).Bib))=true
  ·have nf:¬ (wJd r A p.done k).fin=true:=by unfold wJd;simp only [c];simp
   rw [if_pos c,wDV (by simp only [nB,nQ];omega),hD,if_neg nf,if_neg nf]
   rfl
  ·rw [if_neg c,wBB (by omega),hD]
   have hle:=W.le (gd (after r) k) (wAs (l:=(wEp r).Times) (k:=k) (show k < (after r).length by omega))
   have hlp:=W.laps
   have c':(A.any fun o=>decide (o.Bib=(gd r.Teams k).Bib))=false:=by simpa using c
   by_cases d:((gd (after r) k).length:Int) < (wEp r).Laps
   ·have nf:¬ (wJd r A p.done k).fin=true:=by
     unfold wJd
     simp only [Bool.and_eq_true,decide_eq_true_eq]
     omega
    rw [if_pos d,wDV (by simp only [nB,nQ];omega),hD,if_neg nf,if_neg nf]
    rfl
   ·have yf:(wJd r A p.done k).fin=true:=by
     unfold wJd
     simp only [c',Bool.not_false,Bool.true_and,decide_eq_true_eq]
     omega
    have et:gd (after r) k ∈ (wEp r).Times:=wAs (l:=(wEp r).Times) (k:=k) (show k < (after r).length by omega)
    have hidx:((wEp r).Laps - 1).toNat < (gd (after r) k).length:=by omega
    have hpos:=W.g.pos _ et _ (wAs hidx)
    have hu:=wIX g.rules gt.leg
    have hlg:=gt.legs;have hc4:=g.rules.n;have hun:=g.rules.unused
    have hm0:0 <= unT (gd r.Teams k).Legs * r.Rules.Unused:=nr hu.1 hun.1
    have hm1:unT (gd r.Teams k).Legs * r.Rules.Unused <= 48 * 6000:=ns (by omega) hun.2 hun.1 (by omega)
    rw [if_neg d,wAa (x:=(wEp r).Laps - 1) (by omega) (by omega),show (wEp r).Laps - 1=((((wEp r).Laps - 1).toNat:Nat):Int) by omega,wBB hidx,hD,wMq g.rules gt,hD,wAa (x:=unT (gd r.Teams k).Legs * r.Rules.Unused) (by omega) (by omega),wAa (by omega) (by omega),wDV (by simp only [nB,nQ];omega),hD,if_pos yf,if_pos yf]
    unfold finR wJd
    rfl
end Go.Proofs.YtlmekamhphnmjaaGreat
namespace Go.Proofs.YtlmekamhphnmjaaGreat
open Go.KL
theorem wPk {r:wAS} (g:wIS r) {p:wAK} {A:List wAN} (e:wDB (wEp r)=some (p,A)):wEe r=some (A,0):=by
 unfold wEe
 rw [wJQ g]
 simp only [hD,if_true]
 rw [wMw g,hD,wKC (wOm g) e]
 rfl
end Go.Proofs.YtlmekamhphnmjaaGreat
namespace Go.Proofs.YtlmekamhphnmjaaGreat
open Go.KL
def pick (L:Nat):List Int->Nat->List Int
 | [],_=>[]
 | a :: r,k=>if (k + 1) % L=0 then a :: pick L r (k + 1) else pick L r (k + 1)
theorem wJT (L:Nat):∀ (a b:List Int) (k:Nat),pick L (a ++ b) k=pick L a k ++ pick L b (k + a.length)
 | [],b,k=>by simp [pick]
 | x :: a,b,k=>by
  have:=wJT L a b (k + 1)
  rw [nW,pick,pick,this,show k + 1 + a.length=k + (x :: a).length by simp;omega]
  split <;> simp
theorem wIZ {L:Nat}:∀ (a:List Int) (k:Nat),k % L + a.length < L->pick L a k=[]
 | [],_,_=>rfl
 | x :: a,k,h=>by
  simp only [nB] at h
  have h1:(k + 1) % L=k % L + 1:=by
   rw [Nat.add_mod,Nat.mod_eq_of_lt (show 1 < L by omega),Nat.mod_eq_of_lt (by omega)]
  rw [pick,if_neg (by omega)]
  exact wIZ a (k + 1) (by omega)
theorem wNm {p:wAL} {l:wAR} {L:Nat} (hL:p.Laps=L) (h0:0 < L) (hle:l.Loops.length <= L) (x:Int) {k:Nat} (hk:k % L=0):pick L (wLi p l x) k=if (l.Loops.length:Int)=p.Laps then [wJP p l x] else []:=by
 unfold wLi
 by_cases h:l.Loops.length=L
 ·rw [if_pos (by omega)]
  obtain ⟨n,hn⟩:∃ n,l.Loops.length=n + 1:=⟨L - 1,by omega⟩
  rw [hn,wIU,wJT,wIZ _ _ (by simp;omega),kT]
  simp only [nD,kL,pick]
  rw [if_pos (by rw [show k + n + 1=k + L by omega,Nat.add_mod_right];exact hk)]
  unfold wJP
  rw [hn]
 ·rw [if_neg (by omega)]
  exact wIZ _ _ (by simp;omega)
def wOn (p:wAL):List wAR->Prop
 | []=>True
 | l :: r=>((l.Loops.length:Int)=p.Laps \/ r=[])/\wOn p r
theorem wLR {p:wAL}:∀ {l:List wAR},(∀ k,k + 1 < l.length->((gd l k).Loops.length:Int)=p.Laps)->wOn p l
 | [],_=>trivial
 | a :: l,h=>by
  refine ⟨?_,wLR fun k hk=>h (k + 1) (by simp at hk ⊢;omega)⟩
  cases l with
  | nil=>exact .inr rfl
  | cons b l=>exact .inl (h 0 (by simp))
theorem wKG {p:wAL} {L:Nat} (hL:p.Laps=L) (h0:0 < L):∀ (l:List wAR) (x:Int) (k:Nat),wOn p l->(∀ a ∈ l,a.Loops.length <= L)->k % L=0->pick L (wEY p l x) k=wNO p l x
 | [],_,_,_,_,_=>rfl
 | a :: l,x,k,hf,hle,hk=>by
  rw [wEY,wJT,wNm hL h0 (hle a (by simp)) x hk,wNO]
  by_cases h:(a.Loops.length:Int)=p.Laps
  ·have ha:(wLi p a x).length=L:=by unfold wLi;simp;omega
   rw [if_pos h,if_pos h,wKG hL h0 l _ _ hf.2 (fun b hb=>hle b (by simp [hb])) (by rw [ha,Nat.add_mod_right];exact hk)]
   rfl
  ·have hr:l=[]:=hf.1.resolve_left h
   subst hr
   rw [if_neg h,if_neg h]
   rfl
theorem wLs {r:wAS} (g:wIS r) {k:Nat} (hk:k < r.Teams.length):wCv ⟨r,after r⟩ (k:Int)=some (wNO r.Rules (gd r.Teams k).Legs r.Start):=by
 unfold wCv after
 have gt:=g.team _ (wAs hk)
 have hlen:=wGM g.rules (gd r.Teams k).Legs r.Start gt.leg
 have hc:=g.rules.n;have hleg:=gt.legs;have hlap:=g.rules.laps
 obtain ⟨L,hL⟩:∃ L:Nat,r.Rules.Laps=L:=⟨r.Rules.Laps.toNat,by omega⟩
 simp only
 rw [wBB (by simpa using hk),hD,wGL _ hk]
 have hp:=wKG hL (by omega) (gd r.Teams k).Legs r.Start 0 (wLR gt.full) (fun a ha=>by have:=(gt.leg a ha).le;omega) (by simp)
 rw [<- hp]
 generalize wEY r.Rules (gd r.Teams k).Legs r.Start=X at hlen
 rw [hL]
 have key:∀ (m k:Nat) (o:List Int),k + m=X.length->o.length <= k->forN' (fun k31 l27 =>
  (idx X (↑k31:Int)).bind fun x55 =>
  (rem (↑(k31 + 1):Int) (L:Int)).bind fun x63 =>
  if x63=0 then
   (app 8 l27 [x55]).bind fun x73 =>
   some x73
  else
   some l27) m k o=some (o ++ pick L (X.drop k) k):=by
  intro m
  induction m with
  | zero=>intro k o hk _;rw [nw (by omega)];simp [forN',pick]
  | succ m ih =>
   intro k o hk ho
   have hlt:k < X.length:=by omega
   have hr:rem (↑(k + 1):Int) (L:Int)=some (((k + 1) % L:Nat):Int):=by
    unfold rem
    rw [if_neg (by omega)]
    rfl
   rw [wGh hlt,pick,forN',wBB hlt,hD,hr,hD]
   by_cases h:(k + 1) % L=0
   ·rw [if_pos (by omega),if_pos h,wDV (by simp;omega),hD]
    simp only
    rw [ih (k + 1) _ (by omega) (by simp;omega),nV]
    rfl
   ·rw [if_neg (by omega),if_neg h]
    simp only
    rw [ih (k + 1) _ (by omega) (by omega)]
 rw [wGO (by omega),key X.length 0 [] (by omega) (by simp),hD]
 simp
def wEa (r:wAS):List (List Int):=r.Teams.map fun t=>wNO r.Rules t.Legs r.Start
theorem wNn {r:wAS} (g:wIS r):wDw r=some (wEa r,0):=by
 unfold wDw
 rw [wJQ g]
 simp only [hD,if_true]
 have hn:=g.n
 rw [wDU (S:=List (List Int)) (n:=r.Teams.length) (fun k=>(r.Teams.take k).map fun t=>wNO r.Rules t.Legs r.Start) (s0:=[]) rfl (by omega) fun k hk=>?_]
 ·rw [hD,nH]
  rfl
 ·rw [wLs g hk,hD,wDV (by simp;omega),hD,wDE hk,nP]
  rfl
end Go.Proofs.YtlmekamhphnmjaaGreat
namespace Go.Proofs.YtlmekamhphnmjaaGreat
open Go.KL
theorem wLS {a:Nat} (h:a <= 1000000):w64 ((a:Int) + 1)=((a + 1:Nat):Int):=by rw [wAa (by omega) (by omega)];omega
theorem wNo {a:Nat} (h:1 <= a) (h2:a <= 1000000):w64 ((a:Int) - 1)=((a - 1:Nat):Int):=by rw [wAa (by omega) (by omega)];omega
theorem wMx (P T:List wAA) (z x:wAA):gd (P ++ z :: x :: T) P.length=z/\gd (P ++ z :: x :: T) (P.length + 1)=x/\hM (hM (P ++ z :: x :: T) (P.length + 1) z) P.length x=P ++ x :: z :: T:=by
 refine ⟨wJO _ _ _,?_,?_⟩
 ·have:=wJO (P ++ [z]) T x
  simpa using this
 ·rw [kV _ _ (by omega),show P.length + 1 - P.length=1 by omega,kV _ _ (by omega),Nat.sub_self]
  rfl
def LrJ (K:wAA->Int) (a b:wAA):Prop:=K a < K b \/ (K a=K b/\a.Bib < b.Bib)
theorem LrJ.le {K:wAA->Int} {a b:wAA} (h:LrJ K a b):K a <= K b:=by unfold LrJ at h;omega
theorem LrJ.of {K:wAA->Int} {a b:wAA} (h:K a <= K b) (h2:a.Bib < b.Bib):LrJ K a b:=by unfold LrJ;omega
def ByKJ (K:wAA->Int) (c:(wAA × wAA)->Option Int):Prop:=∀ a b,∃ x,c (a,b)=some x/\(x < 0 ↔ K a < K b)
def wMy (p1:Int) (c:(wAA × wAA)->Option Int) (x9:Int) (s:List wAA × Int):Option ((List wAA × Int) ⊕ ((List wAA × Int) ⊕ List wAA)):=match s with
  | (l34,x35) =>
        if p1 < x35 then
          (chk x35 l34.length).bind fun _ =>
          (chk (w64 (x35 - 1)) l34.length).bind fun _ =>
          (c ((gd l34 x35.toNat),(gd l34 (w64 (x35 - 1)).toNat))).bind fun x65 =>
          if x65 < 0 then
            (chk (w64 (x35 - 1)) (hM l34 x35.toNat (gd l34 (w64 (x35 - 1)).toNat)).length).bind fun _ =>
            some (.inl ((hM (hM l34 x35.toNat (gd l34 (w64 (x35 - 1)).toNat)) (w64 (x35 - 1)).toNat (gd l34 x35.toNat)),w64 (x35 - 1)))
          else
            esc (some (.inl (l34,w64 (x9 + 1))))
        else
          esc (some (.inl (l34,w64 (x9 + 1))))
theorem wKl (p0:List wAA) (p1 p2:Int) (c:(wAA × wAA)->Option Int):wAi p0 p1 p2 c=iter (fun (l8,x9)=>if x9 < p2 then iter (wMy p1 c x9) big (l8,x9) else esc (some l8)) big (p0,w64 (p1 + 1)):=rfl
theorem wMz {K:wAA->Int} {c:(wAA × wAA)->Option Int} (hc:ByKJ K c) {A Z S:List wAA} {x:wAA} {x9:Int} (hlt:∀ z ∈ Z,z.Bib < x.Bib) (ho:Z.Pairwise (LrJ K)) (hl:(A ++ Z ++ x :: S).length <= 1000) :
  ∃ Z',iter (wMy (A.length:Nat) c x9) big (A ++ Z ++ x :: S,((A.length + Z.length:Nat):Int))=some (.inl (A ++ Z' ++ S,w64 (x9 + 1)))/\Z'.Perm (Z ++ [x])/\Z'.Pairwise (LrJ K):=by
 simp only [nG,nB] at hl
 obtain ⟨b,h1,Z1,Z2,rfl,hb,h2,h3⟩:=wHs (body:=wMy (A.length:Nat) c x9) (fun k s=>∃ Z1 Z2,Z=Z1 ++ Z2/\s=(A ++ Z1 ++ x :: (Z2 ++ S),((A.length + Z1.length:Nat):Int))/\(∀ z ∈ Z2,K x < K z)/\Z2.length=k)
  (fun b=>∃ Z1 Z2,Z=Z1 ++ Z2/\b=.inl (A ++ Z1 ++ x :: (Z2 ++ S),w64 (x9 + 1))/\(∀ z ∈ Z2,K x < K z)/\(∀ z ∈ Z1,K z <= K x)) Z.length
  (fun k s hk ⟨Z1,Z2,e,hs,g1,g2⟩=>by
   subst hs
   have el:Z.length=Z1.length + Z2.length:=by rw [e,nG]
   unfold wMy
   simp only
   rcases List.eq_nil_or_concat Z1 with h | ⟨Y,z,h⟩
   ·subst h
    right
    rw [if_neg (by simp)]
    exact ⟨_,rfl,[],Z2,e,rfl,g1,fun z hz=>by simp at hz⟩
   ·rw [List.concat_eq_append] at h
    subst h
    have e1:A ++ (Y ++ [z]) ++ x :: (Z2 ++ S)=(A ++ Y) ++ z :: x :: (Z2 ++ S):=by simp
    have e2:((A.length + (Y ++ [z]).length:Nat):Int)=(((A ++ Y).length + 1:Nat):Int):=by simp only [nG,List.length_singleton];omega
    obtain ⟨s1,s2,s3⟩:=wMx (A ++ Y) (Z2 ++ S) z x
    have hll:(A ++ Y ++ z :: x :: (Z2 ++ S)).length=A.length + Y.length + 2 + Z2.length + S.length:=by simp only [nG,nB];omega
    have el2:Z.length=Y.length + 1 + Z2.length:=by rw [el];simp
    have hY:(A ++ Y).length=A.length + Y.length:=nG
    rw [e1,e2,if_pos (by omega),wDy (by omega) (by omega),hD,wNo (by omega) (by omega),wDy (by omega) (by omega),hD]
    simp only [nK,kc,s1,s2]
    obtain ⟨v,hv,hv2⟩:=hc x z
    rw [hv,hD]
    by_cases g:K x < K z
    ·left
     rw [if_pos (hv2.2 g),wDy (by omega) (by rw [nN];omega),hD,s3]
     refine ⟨by omega,_,rfl,Y,z :: Z2,by rw [e];simp,by simp,fun y hy=>?_,by simp;omega⟩
     rcases ny.1 hy with rfl | hy
     ·exact g
     ·exact g1 y hy
    ·right
     rw [if_neg (fun h=>g (hv2.1 h))]
     refine ⟨_,rfl,Y ++ [z],Z2,e,by simp,g1,fun y hy=>?_⟩
     rcases nT.1 hy with hy | hy
     ·have pw:=ho
      rw [e,nV] at pw
      have:=(nO.1 pw).2.2 y hy z (by simp)
      have:=this.le
      omega
     ·rw [nI.1 hy];omega) (s0:=(A ++ Z ++ x :: S,((A.length + Z.length:Nat):Int))) ⟨Z,[],by simp,by simp,fun z hz=>by simp at hz,rfl⟩ (by omega)
 subst hb
 refine ⟨Z1 ++ x :: Z2,by rw [h1];simp,?_,?_⟩
 ·simp only [nV]
  exact List.Perm.append_left _ (List.perm_append_singleton x Z2).symm
 ·rw [nO] at ho ⊢
  rw [nh]
  have hlt1:∀ z ∈ Z1,z.Bib < x.Bib:=fun z hz=>hlt z (kC _ hz)
  refine ⟨ho.1,⟨fun z hz=>.inl (h2 z hz),ho.2.1⟩,fun a ha b hb=>?_⟩
  rcases ny.1 hb with rfl | hb
  ·exact LrJ.of (h3 a ha) (hlt1 a ha)
  ·exact ho.2.2 a ha b hb
theorem wJU {K:wAA->Int} {c:(wAA × wAA)->Option Int} (hc:ByKJ K c) {A X B:List wAA} (hlt:X.Pairwise fun a b=>a.Bib < b.Bib) (hl:(A ++ X ++ B).length <= 1000) {a b:Nat} (ha:A.length=a) (hb:A.length + X.length=b) :
  ∃ Z,wAi (A ++ X ++ B) (a:Int) (b:Int) c=some (A ++ Z ++ B)/\Z.Perm X/\Z.Pairwise (LrJ K):=by
 rw [wKl]
 simp only [nG] at hl
 subst ha
 rw [wLS (by omega)]
 cases X with
 | nil =>
  refine ⟨[],?_,List.Perm.refl _,kM⟩
  simp only [nQ] at hb
  refine wKf (m:=0) (fun _=>(A ++ [] ++ B,((A.length + 1:Nat):Int))) (fun i hi=>by omega) ?_ rfl (by omega)
  simp only
  rw [if_neg (by omega)]
  rfl
 | cons x0 X =>
  simp only [nB] at hl hb
  obtain ⟨r,h1,Z,rfl,h2,h3⟩:=wHs (body:=fun (l8,x9)=>if x9 < (b:Int) then iter (wMy (A.length:Nat) c x9) big (l8,x9) else esc (some l8))
   (fun k s=>∃ Z,s=(A ++ Z ++ (X.drop k ++ B),((A.length + (k + 1):Nat):Int))/\Z.Perm (x0 :: X.take k)/\Z.Pairwise (LrJ K)/\k <= X.length) (fun r=>∃ Z,r=A ++ Z ++ B/\Z.Perm (x0 :: X)/\Z.Pairwise (LrJ K)) X.length
   (fun k s hk ⟨Z,hs,g1,g2,g3⟩=>by
    subst hs
    simp only
    have hZl:Z.length=k + 1:=by rw [g1.length_eq];simp;omega
    by_cases e:k=X.length
    ·right
     rw [if_neg (by omega)]
     refine ⟨_,rfl,Z,?_,?_,g2⟩
     ·rw [e,List.drop_length];rfl
     ·rwa [e,nH] at g1
    ·left
     have hk':k < X.length:=by omega
     rw [if_pos (by omega)]
     have hlast:∀ z ∈ Z,z.Bib < (gd X k).Bib:=fun z hz=>by
      have pw:=nh.1 hlt
      rcases ny.1 (g1.mem_iff.1 hz) with h | h
      ·rw [h];exact pw.1 _ (wAs hk')
      ·have pw2:=pw.2
       rw [<- nk k X,wGh hk'] at pw2
       exact (nO.1 pw2).2.2 z h _ (by simp)
     obtain ⟨Z',i1,i2,i3⟩:=wMz hc (A:=A) (Z:=Z) (S:=X.drop (k + 1) ++ B) (x:=gd X k) (x9:=((A.length + (k + 1):Nat):Int)) hlast g2 (by simp only [nG,nB,List.length_drop];omega)
     refine ⟨by omega,?_⟩
     rw [wGh hk',nW]
     rw [hZl] at i1
     refine ⟨_,i1,Z',by rw [wLS (by omega)];rfl,?_,i3,by omega⟩
     rw [wDE hk']
     exact i2.trans (by simpa using g1.append_right [gd X k]))
   (s0:=(A ++ x0 :: X ++ B,((A.length + 1:Nat):Int))) ⟨[x0],by simp,by simp,by simp,by omega⟩ (by omega)
  exact ⟨Z,by rw [h1],h2,h3⟩
theorem wOo {K:wAA->Int} {c:(wAA × wAA)->Option Int} (hc:ByKJ K c) {l:List wAA} (hl:l.length < 20) (hlt:l.Pairwise fun a b=>a.Bib < b.Bib):∃ r,wAe l c=some r/\r.Perm l/\r.Pairwise (LrJ K):=by
 obtain ⟨Z,e,h1,h2⟩:=wJU hc (A:=[]) (X:=l) (B:=[]) hlt (by simp;omega) (a:=0) (b:=l.length) rfl (by simp)
 simp only [kT,List.append_nil] at e
 refine ⟨Z,?_,h1,h2⟩
 have hz:Z.length=l.length:=h1.length_eq
 unfold wAe wBX
 rw [wKf (m:=0) (fun _=>(l,(0:Int),(20:Int))) (fun i hi=>by omega) (b:=(l,0)) (by simp only;rw [if_neg (by omega)];rfl) rfl (by omega),hD]
 simp only
 rw [show (0:Int)=((0:Nat):Int) from rfl,e,hD,wKf (m:=0) (fun _=>(Z,(20:Int))) (fun i hi=>by omega) (b:=Z) (by simp only;rw [if_neg (by omega)];rfl) rfl (by omega)]
 rfl
end Go.Proofs.YtlmekamhphnmjaaGreat
namespace Go.Proofs.YtlmekamhphnmjaaGreat
open Go.KL
theorem wKm {l:List Int} (b:Int) (hn:l.length <= 1000):wBQ l b=some (decide (b ∈ l)):=by
 have key:∀ (m k:Nat),k + m=l.length->∃ q,jn (forN (B:=Int) (fun k2 _ =>
   (idx l (↑k2:Int)).bind fun x22 =>
   if b=x22 then
    esc (some (↑k2:Int))
   else
    some (.inl ())) m k ()) (fun _=>some (-1))=some q/\(0 <= q ↔ b ∈ l.drop k):=by
  intro m
  induction m with
  | zero=>intro k hk;exact ⟨-1,rfl,by rw [nw (by omega)];simp⟩
  | succ m ih =>
   intro k hk
   have hlt:k < l.length:=by omega
   rw [forN,wGh hlt,wBB hlt,hD]
   by_cases e:b=gd l k
   ·rw [if_pos e]
    exact ⟨(k:Int),rfl,by simp [e]⟩
   ·rw [if_neg e]
    obtain ⟨q,h1,h2⟩:=ih (k + 1) (by omega)
    exact ⟨q,h1,by rw [h2];simp [e]⟩
 unfold wBQ wCl
 obtain ⟨q,h1,h2⟩:=key l.length 0 (by omega)
 rw [wEF (by omega),h1,hD]
 rw [List.drop_zero] at h2
 simp [h2]
end Go.Proofs.YtlmekamhphnmjaaGreat
namespace Go.Proofs.YtlmekamhphnmjaaGreat
open Go.KL
theorem wKH {K V:Type} [DecidableEq K] {m:List (K × V)} {x y:K} {v:V}:wId (wFX m x v) y=if y=x then some v else wId m y:=by
 induction m with
 | nil=>simp only [wFX,wId]
 | cons p m ih =>
  obtain ⟨a,u⟩:=p
  rw [wFX]
  by_cases h:x=a
  ·subst h
   rw [if_pos rfl,wId,wId]
   split <;> rfl
  ·rw [if_neg h,wId,wId,ih]
   by_cases h2:y=a
   ·rw [if_pos h2,if_neg (fun e:y=x=>h (e.symm.trans h2)),if_pos h2]
   ·rw [if_neg h2,if_neg h2]
theorem wHX {S:Type} {body:Nat->S->Option S} {n:Nat} {s0:S} (I:Nat->S->Prop) (hn:n <= 1000) (h0:I 0 s0) (h:∀ i s,i < n->I i s->∃ s',body i s=some s'/\I (i + 1) s'):∃ s,wCM 0 (n:Int) body s0=some s/\I n s:=by
 rw [wGO (by omega)]
 have:=wIO (body:=body) I n 0 s0 h0 fun i s _ h2 h3=>h i s (by omega) h3
 rwa [kP] at this
structure wKn (r:wAV):Prop where
 s1:1 <= r.Skiers.length
 s2:r.Skiers.length <= 12
 d0:0 <= r.Deadline
 d1:r.Deadline <= 10000
 dl:r.Decisions.length <= 12
 sk:∀ s ∈ r.Skiers,1 <= s.Bib/\s.Bib <= 999/\-1 <= s.Time/\s.Time <= 360000
 inc:r.Skiers.Pairwise fun a b=>a.Bib < b.Bib
 dk:∀ d ∈ r.Decisions,1 <= d.Number/\d.Number <= 9999/\(d.Kind=0 \/ d.Kind=2)/\d.Minute=0/\0 <= d.Much/\d.Much <= 36000/\d.About=0/\d.Bib ∈ r.Skiers.map (·.Bib)
 dinc:r.Decisions.Pairwise fun a b=>a.Number < b.Number
theorem wEP (x a b:Int):wBC x a b=some (decide (a <= x) && decide (x <= b)):=by
 unfold wBC
 by_cases h:a <= x <;> simp [h]
theorem allJS {l:List wAI} {f:wAI->Option Bool} {p:wAI->Bool} (hf:∀ a ∈ l,f a=some (p a)) (hn:l.length <= 1000):wCO l f=some (l.all p):=by
 have e:wAm l (fun x=>wBL x f)=some (first (fun a=>!p a) l 0):=by
  unfold wAm
  exact wFU (p:=fun a=>!p a) (fun a ha=>by unfold wBL;rw [hf a ha];rfl) (by omega) id
 unfold wCO wAu
 rw [e,hD,hD,wFT,<- kS,Bool.not_not]
theorem wOp {l:List wAC} {f:wAC->Option Bool} {p:wAC->Bool} (hf:∀ a ∈ l,f a=some (p a)) (hn:l.length <= 1000):wBH l f=some (l.all p):=by
 have e:wAg l (fun x=>wBA x f)=some (first (fun a=>!p a) l 0):=by
  unfold wAg
  exact wFU (p:=fun a=>!p a) (fun a ha=>by unfold wBA;rw [hf a ha];rfl) (by omega) id
 unfold wBH wAl
 rw [e,hD,hD,wFT,<- kS,Bool.not_not]
theorem wOI {l:List Int} (hl:l.length <= 1000) (hd:l.Pairwise (· < ·)):wEN l=some false:=by
 unfold wEN
 rw [wEF (by omega)]
 rcases wHq (body:=fun (k20:Nat) (l17:List (Int × Bool)) =>
  (idx l (↑k20:Int)).bind fun x41 =>
  if (wDn l17 x41 false)=true then
   esc (some true)
  else
   some (.inl (wFX l17 x41 true))) (fun k m=>∀ b:Int,wDn m b false=true->b ∈ l.take k) (fun _=>False) l.length 0 [] (fun b h=>by simp [wDn,wId] at h) (by
  intro k m _ hk I
  left
  have hk':k < l.length:=by omega
  rw [wBB hk',hD]
  have hn:¬ wDn m (gd l k) false=true:=fun h=>by
   have h1:=I _ h
   have pw:=hd
   rw [<- nk k l,wGh hk'] at pw
   have:=(nO.1 pw).2.2 _ h1 (gd l k) (by simp)
   omega
  rw [if_neg hn]
  refine ⟨_,rfl,fun b hb=>?_⟩
  rw [wDE hk']
  unfold wDn at hb
  rw [wKH] at hb
  by_cases e:b=gd l k
  ·simp [e]
  ·rw [if_neg e] at hb
   exact kC _ (I b hb)) with ⟨m,e,_⟩ | ⟨_,_,h⟩
 ·rw [e];rfl
 ·exact h.elim
theorem wPl {r:wAV} (h:r.Skiers.length <= 1000):wCY r=some (r.Skiers.map (·.Bib)):=by
 unfold wCY
 have e:=wDU (body:=fun (k22:Nat) (l18:List Int) =>
  (idx r.Skiers (↑k22:Int)).bind fun x45 =>
  (app 8 l18 [x45.Bib]).bind fun x65 =>
  some x65) (n:=r.Skiers.length) (s0:=[]) (fun k=>(r.Skiers.take k).map (·.Bib)) rfl (by omega) (fun i hi=>by
   rw [wBB hi,hD,wDV (by simp;omega),hD,wDE hi]
   simp)
 rw [nH] at e
 rw [e];rfl
theorem wNp {r:wAV} (h:r.Decisions.length <= 1000):wCP r=some (r.Decisions.map (·.Number)):=by
 unfold wCP
 have e:=wDU (body:=fun (k22:Nat) (l18:List Int) =>
  (idx r.Decisions (↑k22:Int)).bind fun x45 =>
  (app 8 l18 [x45.Number]).bind fun x65 =>
  some x65) (n:=r.Decisions.length) (s0:=[]) (fun k=>(r.Decisions.take k).map (·.Number)) rfl (by omega) (fun i hi=>by
   rw [wBB hi,hD,wDV (by simp;omega),hD,wDE hi]
   simp)
 rw [nH] at e
 rw [e];rfl
theorem wOq {d:wAC} (h:1 <= d.Number/\d.Number <= 9999/\(d.Kind=0 \/ d.Kind=2)/\d.Minute=0/\0 <= d.Much/\d.Much <= 36000):wBU d=some true:=by
 obtain ⟨h1,h2,h3,h4,h5,h6⟩:=h
 unfold wBU wAx
 rw [if_neg (by omega),hD,if_pos (by simp;omega),hD,if_neg (by simp),wEP,hD,if_pos (by simp;omega),wEP,hD,if_pos (by simp;omega),wEP,hD,if_pos (by simp;omega),wEP,hD]
 simp;omega
theorem wPm {r:wAV} (G:wKn r):wEk r=some 0:=by
 have s1:=G.s1
 have s2:=G.s2
 have dl:=G.dl
 unfold wEk
 have hb:(r.Skiers.map (·.Bib)).Pairwise (· < ·):=nS.2 G.inc
 have hn:(r.Decisions.map (·.Number)).Pairwise (· < ·):=nS.2 G.dinc
 rw [wEP,hD,if_pos (by simp;omega),if_neg (by omega),wEP,hD,if_pos (by simp;exact ⟨G.d0,G.d1⟩),
  allJS (p:=fun _=>true) (fun s hs=>by
   have:=G.sk s hs
   unfold wDe
   rw [wEP,hD,if_pos (by simp;omega),wEP,hD]
   simp;omega) (by omega),hD,if_pos (by simp),
  wOp (p:=fun _=>true) (fun d hd=>by
   have:=G.dk d hd
   exact wOq (by omega)) (by omega),hD,if_pos (by simp),wPl (by omega),hD,wOI (by simp;omega) hb,hD,if_neg (by decide),wNp (by omega),hD,wOI (by simp;omega) hn,hD,if_neg (by decide),
  wOp (p:=fun _=>true) (fun d hd=>by
   have:=G.dk d hd
   unfold wDf wAx
   rw [hD,if_pos (by simp;omega),wPl (by omega),hD,wKm _ (by simp;omega),hD,decide_eq_true this.2.2.2.2.2.2.2]) (by omega),hD,if_pos (by simp),
  wOp (p:=fun _=>true) (fun d hd=>by
   have:=G.dk d hd
   unfold wDg wAx
   rw [hD,if_pos (by simp;omega)]
   simp;omega) (by omega),hD,if_pos (by simp)]
theorem wJV (a b:Int):wAh a b=some (if a < b then -1 else if b < a then 1 else 0):=by
 unfold wAh wCh
 simp
 split
 ·rfl
 ·split <;> rfl
theorem wPn {α:Type} {g:α->Int} {c:α × α->Option Int} (hc:∀ a b,c (a,b)=some (if g a < g b then -1 else if g b < g a then 1 else 0)) {l:List α} (hl:l.length <= 1000) (hi:l.Pairwise fun a b=>g a < g b):wIg c l=some l:=by
 have lt:∀ x y,ltB c x y=decide (g x < g y):=fun x y=>by
  unfold ltB
  rw [hc]
  by_cases h:g x < g y
  ·simp [h]
  ·by_cases h2:g y < g x <;> simp [h,h2]
 have inj:∀ x ∈ l,∀ y ∈ l,g x=g y->x=y:=fun x hx y hy e=>by
  obtain ⟨i,hi',rfl⟩:=nE hx
  obtain ⟨j,hj',rfl⟩:=nE hy
  rcases nv i j with h | h | h
  ·have:=nA.1 hi i j hi' hj' h;omega
  ·subst h;rfl
  ·have:=nA.1 hi j i hj' hi' h;omega
 have C:Cmp c l:=by
  refine ⟨by omega,fun x _ y _=>by rw [hc];rfl,fun x _=>by rw [lt];simp,fun x _ y _ z _ a b=>?_,fun x _ y _ z _ a b=>?_,fun x hx y hy a b=>?_⟩
  ·rw [lt] at a b ⊢
   simp at a b ⊢;omega
  ·rw [lt] at a b ⊢
   simp at a b ⊢;omega
  ·rw [lt] at a b
   simp at a b
   exact inj x hx y hy (by omega)
 rw [wJB C]
 congr 1
 refine List.mergeSort_of_pairwise (hi.imp fun h=>?_)
 rw [lt]
 simp;omega
theorem wNA {α:Type} {m ys:List α} (h:m.length=ys.length):wOE m 0 ys=some ys:=by
 unfold wOE cpy
 rw [if_pos (by omega)]
 simp [h]
theorem wOr {r:wAV} (G:wKn r):wES r=some (r,0):=by
 have s2:=G.s2
 have dl:=G.dl
 unfold wES
 rw [wPm G,hD,if_pos rfl,mkz,if_pos (by omega),hD,mkz,if_pos (by omega),hD,hD]
 simp only
 rw [wNA (by simp),hD,wNA (by simp),hD]
 unfold wBb wBI
 rw [wPn (g:=fun s:wAI=>s.Bib) (fun a b=>by unfold wDM;simp only;rw [wJV];rfl) (by omega) G.inc,hD,wPn (g:=fun d:wAC=>d.Number) (fun a b=>by unfold wDN;simp only;rw [wJV];rfl) (by omega) G.dinc,hD]
theorem wPo {r:wAV} (G:wKn r):∃ at_,wEl r=some (some ⟨r,at_,[]⟩,0):=by
 have dl:=G.dl
 unfold wEl
 rw [wOr G,hD]
 simp only
 rw [if_pos trivial,show wAo r.Decisions=some () from rfl,hD]
 have key:∃ y,wAf (S:=List (Int × wAC)) (E:=Empty) (fun l121 x134 =>
   if 0 < x134.2.About then
    none
   else
    some (.inl (wFX l121 x134.2.Number x134.2))) ([]:List (Int × wAC)) r.Decisions=some (.inl y):=by
  unfold wAf
  rw [wAa (by omega) (by omega)]
  have pick:∀ {o:Option (List (Int × wAC) ⊕ Empty)},(∃ b,o=some b/\∃ y,b=.inl y)->∃ y,o=some (.inl y):=by
   rintro o ⟨b,e,y,rfl⟩
   exact ⟨y,e⟩
  refine pick (wHs (fun (k:Nat) (s:Int × List (Int × wAC))=>s.1=(r.Decisions.length:Int) - 1 - k) (fun (b:List (Int × wAC) ⊕ Empty)=>∃ y,b=Sum.inl y) r.Decisions.length ?_ (s0:=((r.Decisions.length:Int) - 1,[])) (by simp) (by omega))
  rintro k ⟨x,s⟩ hk hx
  simp only at hx
  subst hx
  simp only
  by_cases h:k < r.Decisions.length
  ·left
   refine ⟨h,?_⟩
   have hm:r.Decisions.length - 1 - k < r.Decisions.length:=by omega
   rw [if_pos (by omega),show (r.Decisions.length:Int) - 1 - k=((r.Decisions.length - 1 - k:Nat):Int) by omega,wBB hm,hD,if_neg (by have:=(G.dk _ (wAs hm)).2.2.2.2.2.2.1;omega),hD]
   refine ⟨_,rfl,?_⟩
   simp only
   rw [wAa (by omega) (by omega)]
   omega
  ·right
   rw [if_neg (by omega)]
   exact ⟨_,rfl,_,rfl⟩
 obtain ⟨y,e⟩:=key
 rw [e,hD]
 exact ⟨y,rfl⟩
end Go.Proofs.YtlmekamhphnmjaaGreat
namespace Go.Proofs.YtlmekamhphnmjaaGreat
open Go.KL
def wNq (d:wAC):Int:=if d.Kind=0 then d.Much else 1200 * d.Much
def wGi:List wAC->Int->Int
 | [],_=>0
 | d :: l,b=>(if d.Bib=b then wNq d else 0) + wGi l b
theorem wJW (b:Int):∀ l m:List wAC,wGi (l ++ m) b=wGi l b + wGi m b
 | [],m=>by simp [wGi]
 | d :: l,m=>by rw [nW,wGi,wGi,wJW b l m];omega
theorem wKo {b:Int}:∀ {l:List wAC},(∀ d ∈ l,0 <= wNq d/\wNq d <= 43200000)->0 <= wGi l b/\wGi l b <= 43200000 * (l.length:Int)
 | [],_=>by simp [wGi]
 | d :: l,h=>by
  have h1:=h d (by simp)
  have h2:=wKo (b:=b) (l:=l) fun x hx=>h x (by simp [hx])
  rw [wGi,nB]
  split <;> omega
theorem wOJ {r:wAV} (G:wKn r):∀ d ∈ r.Decisions,0 <= wNq d/\wNq d <= 43200000:=fun d hd=>by
 have:=G.dk d hd
 unfold wNq
 split <;> omega
def tot (r:wAV) (s:wAI):Int:=s.Time + wGi r.Decisions s.Bib
def TB (l:List (Int × Bool)):Prop:=∀ n,wNQ l n=true->wDn l n false=true
theorem TB.nil:TB []:=fun n h=>by simp [wNQ,wId] at h
theorem TB.put {l:List (Int × Bool)} (h:TB l) (n:Int):TB (wFX l n true):=fun m hm=>by
 unfold wNQ at hm
 unfold wDn
 rw [wKH] at hm ⊢
 split
 ·rfl
 ·rename_i c
  rw [if_neg c] at hm
  exact h m hm
theorem wNB {D:wAX} {d:wAC} (hk:d.Kind=0 \/ d.Kind=2) {told:List (Int × Bool)} (h:TB told):∃ told',wCy d told D D ()=some (true,told')/\TB told':=by
 unfold wCy
 by_cases c:wNQ told d.Number=true
 ·rw [if_pos c,h _ c]
  exact ⟨told,rfl,h⟩
 ·rw [if_neg c]
  have e:wDc D d=some false:=by
   unfold wDc wEG
   rw [if_neg (by omega),hD,if_neg (by simp;omega)]
  rw [e,hD]
  exact ⟨_,rfl,h.put _⟩
theorem wPp {D:wAX} {d:wAC} (hk:d.Kind=0 \/ d.Kind=2) {out:List Int} {told:List (Int × Bool)} (h:TB told) (b:Int):∃ told',wDP (D,out,told) d b=some (decide (d.Bib=b),told')/\TB told':=by
 unfold wDP wAx
 rw [hD,if_pos (by simp;omega)]
 by_cases c:d.Bib=b
 ·obtain ⟨t,e,ht⟩:=wNB (D:=D) hk h
  rw [if_pos c,e,hD]
  simp only
  rw [if_pos trivial,if_neg (by omega)]
  exact ⟨t,by rw [decide_eq_true c],ht⟩
 ·rw [if_neg c]
  exact ⟨told,by rw [decide_eq_false c],h⟩
theorem wJX (d:wAC) (D:wAX):wAW d D=some d.Much:=rfl
def wOs (p0:wAX) (bib:Int) (D:wAX) (O:List Int) (k34:Nat):List (Int × Bool) × Bool × Int->Option (List (Int × Bool) × Bool × Int)
 | (l29,b32,x33) =>
  ((idx p0.Record.Decisions (↑k34:Int)).bind fun x69 =>
  (wDP (D,O,l29) x69 bib).bind fun (x96,x97) =>
  if x96=true then
   if b32=true then
    if x69.Kind=0 then
     (wAZ).bind fun _ =>
     (wAW x69 D).bind fun x144 =>
     (wBG x33 x144).bind fun x154 =>
     some (x97,true,x154)
    else
     if x69.Kind=1 then
      (wAZ).bind fun _ =>
      (wAW x69 D).bind fun x199 =>
      (wCr x33 x199).bind fun x209 =>
      some (x97,true,x209)
     else
      if x69.Kind=2 then
       (wAZ).bind fun _ =>
       (wAW x69 D).bind fun x254 =>
       (wCD x33 x254).bind fun x264 =>
       some (x97,true,x264)
      else
       if x69.Kind=3 then
        (wAZ).bind fun _ =>
        (wAW x69 D).bind fun x309 =>
        (wCs x33 x309).bind fun x319 =>
        some (x97,true,x319)
       else
        if x69.Kind=4 then
         (wAZ).bind fun _ =>
         (wAW x69 D).bind fun x364 =>
         (wBG x33 x364).bind fun x374 =>
         some (x97,true,x374)
        else
         none
   else
    if x69.Kind=0 then
     (wAZ).bind fun _ =>
     (wAW x69 D).bind fun x420 =>
     (wBG x33 x420).bind fun x430 =>
     some (x97,decide (x69.Kind=3),x430)
    else
     if x69.Kind=1 then
      (wAZ).bind fun _ =>
      (wAW x69 D).bind fun x475 =>
      (wCr x33 x475).bind fun x485 =>
      some (x97,decide (x69.Kind=3),x485)
     else
      if x69.Kind=2 then
       (wAZ).bind fun _ =>
       (wAW x69 D).bind fun x530 =>
       (wCD x33 x530).bind fun x540 =>
       some (x97,decide (x69.Kind=3),x540)
      else
       if x69.Kind=3 then
        (wAZ).bind fun _ =>
        (wAW x69 D).bind fun x585 =>
        (wCs x33 x585).bind fun x595 =>
        some (x97,decide (x69.Kind=3),x595)
       else
        if x69.Kind=4 then
         (wAZ).bind fun _ =>
         (wAW x69 D).bind fun x640 =>
         (wBG x33 x640).bind fun x650 =>
         some (x97,decide (x69.Kind=3),x650)
        else
         none
  else
   some (x97,b32,x33)).bind fun (l61,b64,x65) =>
  some (l61,b64,x65)
theorem wKI (p0:wAX) (p1:wAI) (p2:(wAX × List Int × List (Int × Bool))):wCe p0 p1 p2=(wCM 0 (↑p0.Record.Decisions.length:Int) (wOs p0 p1.Bib p2.1 p2.2.1) (p2.2.2,decide (p1.Time=(-1)),p1.Time)).bind fun (y39,y40,y41) =>
 if y40=true then
  some (0,true,y39)
 else
  (wDt 0 [y41]).bind fun x725 =>
  some (x725,false,y39):=rfl
theorem wNr {r:wAV} (G:wKn r) {at_:List (Int × wAC)} {s:wAI} (hs:s ∈ r.Skiers) {told:List (Int × Bool)} (h:TB told) :
  ∃ told',wCe ⟨r,at_,[]⟩ s (⟨r,at_,[]⟩,[],told)=some (if s.Time=-1 then 0 else tot r s,decide (s.Time=-1),told')/\TB told':=by
 have dl:=G.dl
 have hsk:=G.sk s hs
 rw [wKI]
 simp only
 obtain ⟨⟨t,b,x⟩,e,h1,h2,h3⟩:=wHX (n:=r.Decisions.length) (s0:=(told,decide (s.Time=-1),s.Time)) (body:=wOs ⟨r,at_,[]⟩ s.Bib ⟨r,at_,[]⟩ []) (fun k q=>TB q.1/\q.2.1=decide (s.Time=-1)/\q.2.2=s.Time + wGi (r.Decisions.take k) s.Bib) (by omega) ⟨h,rfl,by simp [wGi]⟩ (by
  rintro k ⟨t,b,x⟩ hk ⟨h1,h2,h3⟩
  simp only at h1 h2 h3
  subst h2 h3
  have hd:=G.dk _ (wAs hk)
  have hb:0 <= wGi (r.Decisions.take k) s.Bib/\wGi (r.Decisions.take k) s.Bib <= 43200000 * 12:=by
   have:=wKo (b:=s.Bib) (l:=r.Decisions.take k) fun d hd=>wOJ G d (nb hd)
   rw [nX] at this
   omega
  obtain ⟨t',e,ht⟩:=wPp (D:=⟨r,at_,[]⟩) (d:=gd r.Decisions k) hd.2.2.1 (out:=[]) h1 s.Bib
  have es:wGi (r.Decisions.take (k + 1)) s.Bib=wGi (r.Decisions.take k) s.Bib + if (gd r.Decisions k).Bib=s.Bib then wNq (gd r.Decisions k) else 0:=by
   rw [wDE hk,wJW]
   simp [wGi]
  unfold wOs
  simp only
  rw [wBB hk,hD,e,hD]
  simp only
  rw [es]
  by_cases c:(gd r.Decisions k).Bib=s.Bib
  ·rw [if_pos (decide_eq_true c),if_pos c]
   have ef:wNq (gd r.Decisions k)=if (gd r.Decisions k).Kind=0 then (gd r.Decisions k).Much else 1200 * (gd r.Decisions k).Much:=rfl
   have w1:=wAa (x:=s.Time + wGi (r.Decisions.take k) s.Bib + (gd r.Decisions k).Much) (by omega) (by omega)
   have w2:=wAa (x:=1200 * (gd r.Decisions k).Much) (by omega) (by omega)
   have w3:=wAa (x:=s.Time + wGi (r.Decisions.take k) s.Bib + 1200 * (gd r.Decisions k).Much) (by omega) (by omega)
   rcases hd.2.2.1 with k0 | k0
   ·rw [if_pos k0] at ef
    by_cases cb:decide (s.Time=-1)=true
    ·rw [if_pos cb,if_pos k0,wJX,show wAZ=some () from rfl,hD,hD]
     unfold wBG
     rw [hD,hD,w1]
     exact ⟨_,rfl,ht,cb.symm,by simp only;omega⟩
    ·rw [if_neg cb,if_pos k0,wJX,show wAZ=some () from rfl,hD,hD]
     unfold wBG
     rw [hD,hD,w1]
     refine ⟨_,rfl,ht,?_,by simp only;omega⟩
     simp only
     rw [decide_eq_false (by omega),(kf.2 cb)]
   ·rw [if_neg (by omega)] at ef
    by_cases cb:decide (s.Time=-1)=true
    ·rw [if_pos cb,if_neg (by omega),if_neg (by omega),if_pos k0,wJX,show wAZ=some () from rfl,hD,hD]
     unfold wCD
     rw [hD,hD,w2,w3]
     exact ⟨_,rfl,ht,cb.symm,by simp only;omega⟩
    ·rw [if_neg cb,if_neg (by omega),if_neg (by omega),if_pos k0,wJX,show wAZ=some () from rfl,hD,hD]
     unfold wCD
     rw [hD,hD,w2,w3]
     refine ⟨_,rfl,ht,?_,by simp only;omega⟩
     simp only
     rw [decide_eq_false (by omega),(kf.2 cb)]
  ·rw [if_neg (by simpa using c),if_neg c]
   exact ⟨_,rfl,ht,rfl,by simp only;omega⟩)
 simp only at h1 h2 h3
 rw [nH] at h3
 subst h2 h3
 rw [e,hD]
 simp only
 by_cases c:s.Time=-1
 ·rw [if_pos (decide_eq_true c),if_pos c,decide_eq_true c]
  exact ⟨t,rfl,h1⟩
 ·rw [if_neg (by simpa using c),if_neg c,decide_eq_false c]
  refine ⟨t,?_,h1⟩
  have hb:=wKo (b:=s.Bib) (l:=r.Decisions) (wOJ G)
  have eg:wDt 0 [s.Time + wGi r.Decisions s.Bib]=some (max 0 (s.Time + wGi r.Decisions s.Bib)):=rfl
  rw [eg,hD]
  unfold tot
  rw [Int.max_eq_right (by omega)]
def wNC (r:wAV) (l:List wAI):List wAA:=(l.filter fun s=>!decide (s.Time=-1)).map fun s=>⟨s.Bib,0,tot r s⟩
def wIa (l:List wAI):List wAA:=(l.filter fun s=>decide (s.Time=-1)).map fun s=>⟨s.Bib,-1,0⟩
theorem wKp (r:wAV):∀ l,(wNC r l).length + (wIa l).length=l.length
 | []=>rfl
 | s :: l=>by
  have:=wKp r l
  unfold wNC wIa at this ⊢
  by_cases c:s.Time=-1
  ·rw [nc (by simp [c]),ng (by simp [c])]
   simp only [nD,nB] at this ⊢;omega
  ·rw [ng (by simp [c]),nc (by simp [c])]
   simp only [nD,nB] at this ⊢;omega
def wOt (f:Nat->Int):Nat->Int
 | 0=>1
 | k + 1=>if f (k + 1)=f k then wOt f k else (k:Int) + 2
theorem wGN {l:List wAA} {k j:Nat} {v:wAA} (hk:k < l.length):gd (hM l k v) j=if j=k then v else gd l j:=by
 unfold gd
 rw [nZ,nZ,ke]
 by_cases e:k=j
 ·subst e;rw [if_pos rfl,if_pos hk,if_pos rfl];rfl
 ·rw [if_neg e,if_neg (fun h=>e h.symm)]
structure PI (Z:List wAA) (k:Nat) (y:List wAA):Prop where
 len:y.length=Z.length
 lo:∀ j,j < k->gd y j=⟨(gd Z j).Bib,wOt (fun i=>(gd Z i).Total) j,(gd Z j).Total⟩
 hi:∀ j,k <= j->gd y j=gd Z j
def pRd (k224:Nat) (l223:List wAA):Option (List wAA) :=
  (chk (↑k224:Int) l223.length).bind fun _ =>
  if 0 < (↑k224:Int) then
   (chk (↑k224:Int) (hM l223 k224 (⟨(gd l223 k224).Bib,(↑(k224 + 1):Int),(gd l223 k224).Total⟩:wAA)).length).bind fun _ =>
   (chk (w64 ((↑k224:Int) - 1)) (hM l223 k224 (⟨(gd l223 k224).Bib,(↑(k224 + 1):Int),(gd l223 k224).Total⟩:wAA)).length).bind fun _ =>
   if ((gd (hM l223 k224 (⟨(gd l223 k224).Bib,(↑(k224 + 1):Int),(gd l223 k224).Total⟩:wAA)) k224).Total)=((gd (hM l223 k224 (⟨(gd l223 k224).Bib,(↑(k224 + 1):Int),(gd l223 k224).Total⟩:wAA)) (w64 ((↑k224:Int) - 1)).toNat).Total) then
    some (hM (hM l223 k224 (⟨(gd l223 k224).Bib,(↑(k224 + 1):Int),(gd l223 k224).Total⟩:wAA)) k224 (⟨(gd (hM l223 k224 (⟨(gd l223 k224).Bib,(↑(k224 + 1):Int),(gd l223 k224).Total⟩:wAA)) k224).Bib,(gd (hM l223 k224 (⟨(gd l223 k224).Bib,(↑(k224 + 1):Int),(gd l223 k224).Total⟩:wAA)) (w64 ((↑k224:Int) - 1)).toNat).Place,(gd (hM l223 k224 (⟨(gd l223 k224).Bib,(↑(k224 + 1):Int),(gd l223 k224).Total⟩:wAA)) k224).Total⟩:wAA))
   else
    some (hM l223 k224 (⟨(gd l223 k224).Bib,(↑(k224 + 1):Int),(gd l223 k224).Total⟩:wAA))
  else
   some (hM l223 k224 (⟨(gd l223 k224).Bib,(↑(k224 + 1):Int),(gd l223 k224).Total⟩:wAA))
theorem wPq {Z:List wAA} (hZ:Z.length <= 1000) {k:Nat} {y:List wAA} (hk:k < Z.length) (I:PI Z k y):∃ y',pRd k y=some y'/\PI Z (k + 1) y':=by
 obtain ⟨hl,hlo,hhi⟩:=I
 have hky:k < y.length:=by omega
 have g0:=hhi k (kH _)
 unfold pRd
 rw [wDy (by omega) (by omega),hD,g0]
 cases k with
 | zero =>
  rw [if_neg (by omega)]
  refine ⟨_,rfl,by rw [nN];exact hl,fun j hj=>?_,fun j hj=>?_⟩
  ·have:j=0:=by omega
   subst this
   rw [wGN hky,if_pos rfl]
   rfl
  ·rw [wGN hky,if_neg (by omega)]
   exact hhi j (by omega)
 | succ k =>
  have hw:w64 (((k + 1:Nat):Int) - 1)=(k:Int):=by rw [wAa (by omega) (by omega)];omega
  have g1:=hlo k (by omega)
  simp only [hw]
  rw [if_pos (by omega),wDy (i:=((k + 1:Nat):Int)) (by omega) (by rw [nN];omega),hD,wDy (i:=(k:Int)) (by omega) (by rw [nN];omega),hD,nK,wGN hky,if_pos rfl,wGN hky,if_neg (show ¬ k=k + 1 by omega),g1]
  simp only
  by_cases c:(gd Z (k + 1)).Total=(gd Z k).Total
  ·rw [if_pos c,List.set_set]
   refine ⟨_,rfl,by rw [nN];exact hl,fun j hj=>?_,fun j hj=>?_⟩
   ·rw [wGN hky]
    by_cases e:j=k + 1
    ·subst e
     rw [if_pos rfl,wOt,if_pos c]
    ·rw [if_neg e]
     exact hlo j (by omega)
   ·rw [wGN hky,if_neg (by omega)]
    exact hhi j (by omega)
  ·rw [if_neg c]
   refine ⟨_,rfl,by rw [nN];exact hl,fun j hj=>?_,fun j hj=>?_⟩
   ·rw [wGN hky]
    by_cases e:j=k + 1
    ·subst e
     rw [if_pos rfl,wOt,if_neg c]
     congr 1
    ·rw [if_neg e]
     exact hlo j (by omega)
   ·rw [wGN hky,if_neg (by omega)]
    exact hhi j (by omega)
def wOu (p0 D:wAX) (O:List Int) (k50:Nat):List (Int × Bool) × List wAA × List wAA->Option (List (Int × Bool) × List wAA × List wAA)
 | (l39,l42,l46) =>
  (idx p0.Record.Skiers (↑k50:Int)).bind fun x81 =>
  (wCe p0 x81 (D,O,l39)).bind fun (x112,x113,x114) =>
  if x113=true then
   (app 24 l46 [(⟨x81.Bib,-1,0⟩:wAA)]).bind fun x135 =>
   some (x114,l42,x135)
  else
   (app 24 l42 [(⟨x81.Bib,0,x112⟩:wAA)]).bind fun x158 =>
   some (x114,x158,l46)
theorem wJY (p0:wAX) (p1:(wAX × List Int × List (Int × Bool))):wDl p0 p1 =
 (wCM 0 (↑p0.Record.Skiers.length:Int) (wOu p0 p1.1 p1.2.1) (p1.2.2,[],[])).bind fun (y55,y56,y57) =>
 (wAe y56 (fun x=>wBT x.1 x.2)).bind fun x206 =>
 (wCM 0 (↑x206.length:Int) pRd x206).bind fun y229 =>
 (app 24 y229 y57).bind fun x289 =>
 some (x289,y55):=rfl
structure ResJ (r:wAV) (Z lines:List wAA):Prop where
 perm:Z.Perm (wNC r r.Skiers)
 ord:Z.Pairwise (LrJ fun x=>x.Total)
 len:lines.length=r.Skiers.length
 zl:Z.length <= lines.length
 at_:∀ k,k < Z.length->gd lines k=⟨(gd Z k).Bib,wOt (fun i=>(gd Z i).Total) k,(gd Z k).Total⟩
 out:∀ k,Z.length <= k->k < lines.length->(gd lines k).Place=-1
theorem wOv {r:wAV} (G:wKn r):∃ Z lines,wDx r=some (lines,0)/\ResJ r Z lines:=by
 have s2:=G.s2
 obtain ⟨at_,ea⟩:=wPo G
 unfold wDx
 rw [ea,hD]
 simp only
 rw [if_pos trivial,show wEH ⟨r,at_,[]⟩ []=some [] from rfl,hD]
 rw [wJY]
 simp only
 obtain ⟨⟨t,a,b⟩,e1,h1,h2,h3⟩:=wHX (n:=r.Skiers.length) (s0:=(([]:List (Int × Bool)),([]:List wAA),([]:List wAA))) (body:=wOu ⟨r,at_,[]⟩ ⟨r,at_,[]⟩ []) (fun k q=>TB q.1/\q.2.1=wNC r (r.Skiers.take k)/\q.2.2=wIa (r.Skiers.take k)) (by omega) ⟨TB.nil,rfl,rfl⟩ (by
  rintro k ⟨t,a,b⟩ hk ⟨h1,h2,h3⟩
  simp only at h1 h2 h3
  have hlen:=wKp r (r.Skiers.take k)
  rw [nX] at hlen
  obtain ⟨t',e,ht⟩:=wNr G (at_:=at_) (wAs hk) h1
  unfold wOu
  simp only
  rw [wBB hk,hD,e,hD]
  simp only
  by_cases c:(gd r.Skiers k).Time=-1
  ·rw [if_pos (decide_eq_true c),wDV (by rw [h3];simp;omega),hD]
   refine ⟨_,rfl,ht,?_,?_⟩
   ·simp only
    rw [h2,wDE hk]
    unfold wNC
    rw [nY,nc (by simp [c])]
    simp
   ·simp only
    rw [h3,wDE hk]
    unfold wIa
    rw [nY,ng (by simp [c])]
    simp
  ·rw [if_neg (by simpa using c),if_neg c,wDV (by rw [h2];simp;omega),hD]
   refine ⟨_,rfl,ht,?_,?_⟩
   ·simp only
    rw [h2,wDE hk]
    unfold wNC
    rw [nY,ng (by simp [c])]
    simp
   ·simp only
    rw [h3,wDE hk]
    unfold wIa
    rw [nY,nc (by simp [c])]
    simp)
 simp only at h1 h2 h3
 rw [nH] at h2 h3
 subst h2 h3
 rw [e1,hD]
 simp only
 have hlen:=wKp r r.Skiers
 have hinc:(wNC r r.Skiers).Pairwise fun a b=>a.Bib < b.Bib:=by
  unfold wNC
  rw [nS]
  exact List.Pairwise.sublist kF G.inc
 obtain ⟨Z,e2,z1,z2⟩:=wOo (K:=fun x=>x.Total) (c:=fun x=>wBT x.1 x.2) (fun a b=>by
  unfold wBT
  simp only
  rw [wJV]
  refine ⟨_,rfl,?_⟩
  split
  ·omega
  ·split <;> omega) (l:=wNC r r.Skiers) (by omega) hinc
 have hz:=z1.length_eq
 rw [e2,hD]
 obtain ⟨y,e3,P⟩:=wHX (n:=Z.length) (s0:=Z) (body:=pRd) (PI Z) (by omega) ⟨rfl,fun j hj=>by omega,fun j _=>rfl⟩ fun k y hk I=>wPq (by omega) hk I
 rw [e3,hD,wDV (by rw [P.len];omega),hD,hD]
 simp only
 refine ⟨Z,_,rfl,z1,z2,by rw [nG,P.len];omega,by rw [nG,P.len];omega,fun k hk=>?_,fun k h1 h2=>?_⟩
 ·rw [wGP (by rw [P.len];exact hk)]
  exact P.lo k hk
 ·rw [nG,P.len] at h2
  have hg:gd (y ++ wIa r.Skiers) k=gd (wIa r.Skiers) (k - y.length):=by
   unfold gd
   rw [nZ,nZ,List.getElem?_append_right (by rw [P.len];exact h1)]
  rw [hg,P.len]
  have hm:=wAs (l:=wIa r.Skiers) (k:=k - Z.length) (by omega)
  unfold wIa at hm
  obtain ⟨s,_,hs⟩:=nR.1 hm
  have:(gd (wIa r.Skiers) (k - Z.length)).Place=-1:=by
   unfold wIa
   rw [<- hs]
  exact this
end Go.Proofs.YtlmekamhphnmjaaGreat
namespace Go.Proofs.YtlmekamhphnmjaaGreat
open Go.KL
theorem wLT {a b:Int} (h0:0 <= a) (hb:0 < b):∃ x,rem a b=some x/\0 <= x/\x < b:=by
 refine ⟨a.tmod b,if_neg (by omega),?_,?_⟩
 ·rw [kJ h0];exact Int.emod_nonneg _ (by omega)
 ·rw [kJ h0];exact Int.emod_lt_of_pos _ hb
theorem wKq (x:Int):0 <= wFv x:=by unfold wFv;omega
theorem wOw (x:Int):wFv x < 4294967296:=by unfold wFv;omega
theorem w64u (x:Int):w64 (wFv x)=wFv x:=by
 have:=wKq x
 have:=wOw x
 exact wAa (by omega) (by omega)
theorem wNs (a:Int) {b:Int} (hb:b ≠ 0):∃ x,quo a b=some x:=⟨_,if_neg hb⟩
theorem wJZ (d:wAO) (n:Int) (h0:0 <= d.next) (h1:d.next <= 1000000):∃ x d',wAp d n=some (x,d')/\0 <= d'.next/\d'.next <= d.next + 1/\0 <= x/\(x < n \/ (n <= 1/\x=0)):=by
 unfold wAp
 by_cases hn:n <= 1
 ·exact ⟨0,d,by rw [if_pos hn],h0,by omega,by omega,.inr ⟨hn,rfl⟩⟩
 rw [if_neg hn]
 by_cases hl:(d.bytes.length:Int)=0
 ·exact ⟨0,d,by rw [if_pos hl],h0,by omega,by omega,.inl (by omega)⟩
 rw [if_neg hl]
 obtain ⟨r,e1,r0,r1⟩:=wLT h0 (show (0:Int) < d.bytes.length by omega)
 obtain ⟨b,e2⟩:∃ b,idx d.bytes r=some b:=by
  unfold idx
  rw [if_pos r0,np (by omega)]
  exact ⟨_,rfl⟩
 obtain ⟨q,e3⟩:=wNs d.next (b:=d.bytes.length) hl
 obtain ⟨st,e4,_,_⟩:=wLT (wKq ((wFv ((wFv ((wFv (d.state * 45)) + (wFv b))) + (wFv (77 * (wFv q))))) + 1)) (b:=65519) (by decide)
 rw [e1,hD,e2,hD,e3,hD,e4,hD,wAa (x:=d.next + 1) (by omega) (by omega)]
 have fin:∀ z:Int,∃ x d',((rem (w64 (wFv z)) n).bind fun x=>some (x,(⟨d.bytes,d.next + 1,st⟩:wAO)))=some (x,d')/\0 <= d'.next/\d'.next <= d.next + 1/\0 <= x/\(x < n \/ (n <= 1/\x=0)):=by
  intro z
  obtain ⟨x,e5,x0,x1⟩:=wLT (a:=w64 (wFv z)) (b:=n) (by rw [w64u];exact wKq z) (by omega)
  exact ⟨x,_,by rw [e5];rfl,by show 0 <= d.next + 1;omega,by show d.next + 1 <= _;omega,x0,.inl x1⟩
 by_cases c1:wFv q=0
 ·rw [if_pos c1]
  by_cases c2:n <= 256
  ·rw [if_pos c2];exact fin _
  ·rw [if_neg c2];exact fin _
 ·rw [if_neg c1];exact fin _
theorem wOx (d:wAO) (a b:Int) (h0:0 <= d.next) (h1:d.next <= 1000000) (ha:-1000000 <= a) (hab:a <= b) (hb:b <= 1000000):∃ x d',wBN d a b=some (x,d')/\0 <= d'.next/\d'.next <= d.next + 1/\a <= x/\x <= b:=by
 unfold wBN
 rw [wAa (x:=b - a) (by omega) (by omega),wAa (x:=b - a + 1) (by omega) (by omega)]
 obtain ⟨x,d',e,n0,n1,x0,x1⟩:=wJZ d (b - a + 1) h0 h1
 refine ⟨a + x,d',?_,n0,n1,by omega,by omega⟩
 rw [e,hD]
 simp only
 rw [wAa (by omega) (by omega)]
end Go.Proofs.YtlmekamhphnmjaaGreat
namespace Go.Proofs.YtlmekamhphnmjaaGreat
open Go.KL
theorem foldU (v:Int) {n:Int} (h1:1 <= n) (h2:n <= 100000):∃ x,wCb v n=some x/\0 <= x/\x < n:=by
 unfold wCb wDv
 rw [if_neg (by omega),rem,if_neg (by omega),hD]
 have a1:=Int.lt_tmod_of_pos v (show 0 < n by omega)
 have a2:=Int.tmod_lt_of_pos v (show 0 < n by omega)
 rw [wAa (by omega) (by omega)]
 obtain ⟨x,e,x0,x1⟩:=wLT (a:=v.tmod n + n) (b:=n) (by omega) (by omega)
 rw [e]
 exact ⟨x,rfl,x0,x1⟩
theorem wNt (d:wAO) (n:Int) (h0:0 <= d.next) (h1:d.next <= 1000000):∃ b d',wAc d n=some (b,d')/\0 <= d'.next/\d'.next <= d.next + 1:=by
 obtain ⟨x,d',e,m0,m1,_⟩:=wJZ d n h0 h1
 unfold wAc
 rw [e]
 exact ⟨_,_,rfl,m0,m1⟩
theorem wIb (b:Bool):∀ (l:List Bool) (k:Nat),wFV (l ++ [b]) k=(wFV l k).bind fun m=>if m=5 then none else some (m + if b=true then 1 else 0)
 | [],k=>rfl
 | a :: l,k=>by
  rw [nW,wFV,wFV]
  split
  ·rfl
  ·exact wIb b l _
theorem wND {α:Type} [Inhabited α] (l:List α) (x:α):gd (l ++ [x]) l.length=x:=by
 rw [wDb (by simp)];simp
abbrev RdS:=List Int × Int × Int × List Bool × Int
def wOy:RdS->Option (List Int × Int × Int × Bool)
 | (l206,x209,x210,l211,x215) =>
   if (↑l211.length:Int) < 5 then
    some (l206,x209,x210,true)
   else
    if (↑l211.length:Int) < 8 then
     if x215 < 5 then
      (wAc (⟨l206,x209,x210⟩:wAO) 4).bind fun (x260,x261) =>
      some (x261.bytes,x261.next,x261.state,!x260)
     else
      some (l206,x209,x210,false)
    else
     some (l206,x209,x210,false)
def hitU (l211:List Bool) (x215:Int) (l238:List Int) (x241 x242:Int):Option (List Int × Int × Int × Bool) :=
        if x215 < 4 then
          (wAc (⟨l238,x241,x242⟩:wAO) 2).bind fun (x323,x324) =>
          if x323=true then
            some (x324.bytes,x324.next,x324.state,true)
          else
            if x215=4 then
              if 4 <= (↑l211.length:Int) then
                (wAc x324 2).bind fun (x350,x351) =>
                some (x351.bytes,x351.next,x351.state,x350)
              else
                some (x324.bytes,x324.next,x324.state,false)
            else
              some (x324.bytes,x324.next,x324.state,false)
        else
          if x215=4 then
            if 4 <= (↑l211.length:Int) then
              (wAc (⟨l238,x241,x242⟩:wAO) 2).bind fun (x389,x390) =>
              some (x390.bytes,x390.next,x390.state,x389)
            else
              some (l238,x241,x242,false)
          else
            some (l238,x241,x242,false)
def rdU:RdS->Option (RdS ⊕ (List Int × Int × Int × List Bool))
 | (l206,x209,x210,l211,x215) =>
   (wOy (l206,x209,x210,l211,x215)).bind fun (l238,x241,x242,b243) =>
   if b243=true then
    (hitU l211 x215 l238 x241 x242).bind fun (l312,x315,x316,b317) =>
    (app 1 l211 [b317]).bind fun x444 =>
    if b317=true then
     some (.inl (l312,x315,x316,x444,w64 (x215 + 1)))
    else
     some (.inl (l312,x315,x316,x444,x215))
   else
    esc (some (l238,x241,x242,l211))
theorem wOz {l:List Int} {x s:Int} {R:List Bool} {h:Int} (h0:0 <= x) (h1:x <= 1000000):∃ l' x' s' b,wOy (l,x,s,R,h)=some (l',x',s',b)/\0 <= x'/\x' <= x + 1/\(R.length < 5->b=true)/\(b=true->R.length < 8/\(5 <= R.length->h < 5)):=by
 unfold wOy
 simp only
 by_cases c:(R.length:Int) < 5
 ·rw [if_pos c]
  exact ⟨_,_,_,_,rfl,h0,by omega,fun _=>rfl,fun _=>⟨by omega,fun _=>by omega⟩⟩
 rw [if_neg c]
 by_cases c2:(R.length:Int) < 8
 ·rw [if_pos c2]
  by_cases c3:h < 5
  ·obtain ⟨b,d',e,m0,m1⟩:=wNt ⟨l,x,s⟩ 4 h0 h1
   rw [if_pos c3,e]
   exact ⟨_,_,_,_,rfl,m0,m1,fun _=>by omega,fun _=>⟨by omega,fun _=>c3⟩⟩
  ·rw [if_neg c3]
   exact ⟨_,_,_,_,rfl,h0,by omega,fun _=>by omega,fun hh=>by cases hh⟩
 ·rw [if_neg c2]
  exact ⟨_,_,_,_,rfl,h0,by omega,fun _=>by omega,fun hh=>by cases hh⟩
theorem wPr {l:List Int} {x s:Int} {R:List Bool} {h:Int} (h0:0 <= x) (h1:x <= 1000000):∃ l' x' s' b,hitU R h l x s=some (l',x',s',b)/\0 <= x'/\x' <= x + 1/\(b=true->h < 4 \/ (h=4/\4 <= R.length)):=by
 unfold hitU
 by_cases c:h < 4
 ·obtain ⟨b,d',e,m0,m1⟩:=wNt ⟨l,x,s⟩ 2 h0 h1
  rw [if_pos c,e,hD]
  simp only
  by_cases cb:b=true
  ·rw [if_pos cb]
   exact ⟨_,_,_,_,rfl,m0,m1,fun _=>.inl c⟩
  ·rw [if_neg cb,if_neg (by omega)]
   exact ⟨_,_,_,_,rfl,m0,m1,fun hh=>by cases hh⟩
 ·rw [if_neg c]
  by_cases c2:h=4
  ·rw [if_pos c2]
   by_cases c3:4 <= (R.length:Int)
   ·obtain ⟨b,d',e,m0,m1⟩:=wNt ⟨l,x,s⟩ 2 h0 h1
    rw [if_pos c3,e]
    exact ⟨_,_,_,_,rfl,m0,m1,fun _=>.inr ⟨c2,by omega⟩⟩
   ·rw [if_neg c3]
    exact ⟨_,_,_,_,rfl,h0,by omega,fun hh=>by cases hh⟩
  ·rw [if_neg c2]
   exact ⟨_,_,_,_,rfl,h0,by omega,fun hh=>by cases hh⟩
theorem wNE {l:List Int} {x s:Int} (h0:0 <= x) (h1:x <= 1000):∃ l' x' s' R,iter rdU big (l,x,s,[],(0:Int))=some (l',x',s',R)/\0 <= x'/\x' <= x + 20/\okB R:=by
 obtain ⟨⟨l',x',s',R⟩,e,z1,z2,z3⟩:=wHs (body:=rdU) (s0:=(l,x,s,[],(0:Int)))
  (fun i (t:RdS)=>(0 <= t.2.1/\t.2.1 <= x + 2 * (i:Int))/\t.2.2.2.1.length=i/\∃ h:Nat,t.2.2.2.2=(h:Int)/\wFV t.2.2.2.1 0=some h/\h <= 5/\(i <= 4->h <= 4))
  (fun (t:List Int × Int × Int × List Bool)=>0 <= t.2.1/\t.2.1 <= x + 20/\okB t.2.2.2) 8 (by
   rintro i ⟨l,y,s,R,h'⟩ hi ⟨a1,a2,h,a3,a4,a5,a6⟩
   simp only at a1 a2 a3 a4
   subst a2 a3
   obtain ⟨l2,y2,s2,b,e1,b1,b2,b3,b4⟩:=wOz (l:=l) (x:=y) (s:=s) (R:=R) (h:=(h:Int)) a1.1 (by omega)
   unfold rdU
   simp only
   rw [e1,hD]
   simp only
   by_cases c:b=true
   ·have b5:=b4 c
    obtain ⟨l3,y3,s3,q,e2,q1,q2,q3⟩:=wPr (l:=l2) (x:=y2) (s:=s2) (R:=R) (h:=(h:Int)) b1 (by omega)
    rw [if_pos c,e2,hD]
    simp only
    rw [wDV (by simp only [nB,nQ];omega),hD]
    have hs:=wIb q R 0
    have hne:h ≠ 5:=fun h5=>by
     by_cases c5:5 <= R.length
     ·have:=b5.2 c5;omega
     ·have:=a6 (by omega);omega
    rw [a4,hD,if_neg hne] at hs
    left
    refine ⟨b5.1,?_⟩
    by_cases cq:q=true
    ·have q4:=q3 cq
     rw [if_pos cq] at hs ⊢
     rw [wAa (by omega) (by omega)]
     refine ⟨_,rfl,by simp only;omega,by simp,h + 1,by simp,hs,by omega,fun hi5=>by omega⟩
    ·rw [if_neg cq] at hs ⊢
     refine ⟨_,rfl,by simp only;omega,by simp,h,rfl,hs,a5,fun hi5=>a6 (by omega)⟩
   ·right
    rw [if_neg c]
    have c5:¬ R.length < 5:=fun h5=>c (b3 h5)
    exact ⟨_,rfl,b1,by simp only;omega,by simp only;omega,by simp only;omega,h,a4⟩)
  ⟨by simp only;omega,rfl,0,rfl,rfl,by omega,fun _=>by omega⟩ (by omega)
 exact ⟨l',x',s',R,e,z1,z2,z3⟩
structure wKr (i:Nat) (t:wAJ):Prop where
 bib:t.Bib=(i:Int) + 1
 cls:t.Classes=[0]
 leg:∃ a,(3000 <= a/\a < 3090)/\(t.Legs=[⟨0,[a],[]⟩] \/ ∃ b R,(3000 <= b/\b < 3090)/\okB R/\t.Legs=[⟨0,[a,b],[R]⟩])
def full (t:wAJ):Bool:=decide ((gd t.Legs 0).Loops.length=2)
abbrev TmS:=List Int × Int × Int × List wAI × List wAC × List wAJ × Int
def tmU (x21:Int) (k136:Nat):TmS->Option (TmS ⊕ Bool)
 | (l117,x120,x121,l122,l126,l130,x135) =>
  (iter rdU big (l117,x120,x121,[],(0:Int))).bind fun (l166,x169,x170,l171) =>
  (wCt l171).bind fun (x504,x505) =>
  if x505=0 then
   (wAp (⟨l166,x169,x170⟩:wAO) 90).bind fun (x526,x527) =>
   (wAp x527 90).bind fun (x541,x542) =>
   (wAc x542 6).bind fun (x576,x577) =>
   if x576=true then
    (cut [w64 (3000 + x526),w64 (3000 + x541)] 0 1).bind fun x598 =>
    (app 56 l130 [(⟨(↑(k136 + 1):Int),[0],[(⟨0,x598,[]⟩:wAR)]⟩:wAJ)]).bind fun x642 =>
    (app 16 l122 [(⟨(↑(k136 + 1):Int),-1⟩:wAI)]).bind fun x680 =>
    if (↑x598.length:Int)=2 then
     if 0 < x504.Unused then
      (app 48 l126 [(⟨x135,0,0,(↑(k136 + 1):Int),w64 (x504.Unused * x21),0⟩:wAC)]).bind fun x700 =>
      some (.inl (x577.bytes,x577.next,x577.state,x680,x700,x642,w64 (x135 + 1)))
     else
      some (.inl (x577.bytes,x577.next,x577.state,x680,l126,x642,x135))
    else
     some (.inl (x577.bytes,x577.next,x577.state,x680,l126,x642,x135))
   else
    (app 56 l130 [(⟨(↑(k136 + 1):Int),[0],[(⟨0,[w64 (3000 + x526),w64 (3000 + x541)],[l171]⟩:wAR)]⟩:wAJ)]).bind fun x813 =>
    (app 16 l122 [(⟨(↑(k136 + 1):Int),-1⟩:wAI)]).bind fun x841 =>
    if 0 < x504.Unused then
     (app 48 l126 [(⟨x135,0,0,(↑(k136 + 1):Int),w64 (x504.Unused * x21),0⟩:wAC)]).bind fun x870 =>
     some (.inl (x577.bytes,x577.next,x577.state,x841,x870,x813,w64 (x135 + 1)))
    else
     some (.inl (x577.bytes,x577.next,x577.state,x841,l126,x813,x135))
  else
   esc (some false)
structure DecU (x21:Int) (k:Nat) (T:List wAJ) (D:List wAC) (n:Int):Prop where
 len:(D.length:Int) + 1=n
 le:D.length <= k
 of:∀ d ∈ D,1 <= d.Number/\d.Number < n/\d.Kind=0/\d.Minute=0/\0 <= d.Much/\d.Much <= 3900/\d.About=0/\1 <= d.Bib/\d.Bib <= k
 inc:D.Pairwise fun a b=>a.Number < b.Number
 sum:∀ i,i < k->full (gd T i)=true->wGi D ((i:Int) + 1)=unT (gd T i).Legs * x21
theorem wIc {b:Int}:∀ {l:List wAC},(∀ d ∈ l,d.Bib ≠ b)->wGi l b=0
 | [],_=>rfl
 | d :: l,h=>by
  rw [wGi,if_neg (h d (by simp)),wIc (l:=l) fun x hx=>h x (by simp [hx])]
  rfl
theorem DecU.none {x21:Int} {k:Nat} {T:List wAJ} {D:List wAC} {n:Int} (h:DecU x21 k T D n) (hT:T.length=k) {t:wAJ} (ht:full t=true->unT t.Legs * x21=0):DecU x21 (k + 1) (T ++ [t]) D n:=by
 refine ⟨h.len,by have:=h.le;omega,fun d hd=>?_,h.inc,fun i hi hf=>?_⟩
 ·obtain ⟨a1,a2,a3,a4,a5,a6,a7,a8,a9⟩:=h.of d hd
  exact ⟨a1,a2,a3,a4,a5,a6,a7,a8,by omega⟩
 ·by_cases c:i < k
  ·have e:gd (T ++ [t]) i=gd T i:=wGP (by omega)
   rw [e] at hf ⊢
   exact h.sum i c hf
  ·have e:gd (T ++ [t]) i=t:=by
    rw [show i=T.length by omega];exact wND T t
   rw [e] at hf ⊢
   rw [ht hf]
   exact wIc fun d hd=>by have:=(h.of d hd).2.2.2.2.2.2.2;omega
theorem DecU.more {x21:Int} {k:Nat} {T:List wAJ} {D:List wAC} {n:Int} (h:DecU x21 k T D n) (hT:T.length=k) {t:wAJ} {m:Int} (hm:0 <= m/\m <= 3900) (ht:unT t.Legs * x21=m):DecU x21 (k + 1) (T ++ [t]) (D ++ [⟨n,0,0,(k:Int) + 1,m,0⟩]) (n + 1):=by
 have hl:=h.len
 refine ⟨by simp;omega,by have:=h.le;simp;omega,fun d hd=>?_,?_,fun i hi hf=>?_⟩
 ·rcases nT.1 hd with hd | hd
  ·obtain ⟨a1,a2,a3,a4,a5,a6,a7,a8,a9⟩:=h.of d hd
   exact ⟨a1,by omega,a3,a4,a5,a6,a7,a8,by omega⟩
  ·rw [nI] at hd
   subst hd
   exact ⟨by simp only;omega,by simp only;omega,rfl,rfl,hm.1,hm.2,rfl,by simp only;omega,by simp only;omega⟩
 ·rw [nO]
  refine ⟨h.inc,nt _ _,fun a ha b hb=>?_⟩
  rw [nI] at hb
  subst hb
  exact (h.of a ha).2.1
 ·rw [wJW]
  by_cases c:i < k
  ·have e:gd (T ++ [t]) i=gd T i:=wGP (by omega)
   rw [e] at hf ⊢
   rw [h.sum i c hf,wGi,if_neg (by simp only;omega),wGi]
   omega
  ·have e:gd (T ++ [t]) i=t:=by
    rw [show i=T.length by omega];exact wND T t
   have hik:i=k:=by omega
   subst hik
   rw [e,wIc fun d hd=>by have:=(h.of d hd).2.2.2.2.2.2.2;omega,wGi,if_pos rfl,wGi,ht]
   simp [wNq]
end Go.Proofs.YtlmekamhphnmjaaGreat
namespace Go.Proofs.YtlmekamhphnmjaaGreat
open Go.KL
structure wNu (x21:Int) (k:Nat) (s:TmS):Prop where
 nx:0 <= s.2.1/\s.2.1 <= 10 + 40 * (k:Int)
 sk:s.2.2.2.1=(nM k).map fun i=>⟨(i:Int) + 1,-1⟩
 tl:s.2.2.2.2.2.1.length=k
 tm:∀ i,i < k->wKr i (gd s.2.2.2.2.2.1 i)
 dc:DecU x21 k s.2.2.2.2.2.1 s.2.2.2.2.1 s.2.2.2.2.2.2
theorem cut1 (a b:Int):cut [a,b] 0 1=some [a]:=by
 rw [cut,if_pos (by simp)];rfl
theorem tm_is {x21:Int} (hx:0 <= x21/\x21 < 1300) {k:Nat} (hk:k < 8) {s:TmS} (I:wNu x21 k s):∃ s',tmU x21 k s=some (.inl s')/\wNu x21 (k + 1) s':=by
 obtain ⟨l,y,st,S,D,T,n⟩:=s
 obtain ⟨nx,sk,tl,tm,dc⟩:=I
 simp only at nx sk tl tm dc
 obtain ⟨l1,y1,s1,R,e1,a0,a1,ok⟩:=wNE (l:=l) (x:=y) (s:=st) nx.1 (by omega)
 unfold tmU
 simp only
 rw [e1,hD]
 simp only
 rw [wJM ok,hD]
 simp only
 rw [if_pos trivial]
 obtain ⟨a,d2,e2,b0,b1,c0,c1⟩:=wJZ ⟨l1,y1,s1⟩ 90 a0 (by simp only;omega)
 simp only at b1
 rw [e2,hD]
 simp only
 obtain ⟨b,d3,e3,b2,b3,c2,c3⟩:=wJZ d2 90 b0 (by omega)
 rw [e3,hD]
 simp only
 obtain ⟨q,d4,e4,b4,b5⟩:=wNt d3 6 b2 (by omega)
 rw [e4,hD]
 simp only
 have hS:S.length=k:=by rw [sk];simp
 have hdl:=dc.len;have hde:=dc.le
 rw [wAa (x:=3000 + a) (by omega) (by omega),wAa (x:=3000 + b) (by omega) (by omega)]
 have hsk:S ++ [(⟨((k + 1:Nat):Int),-1⟩:wAI)]=(nM (k + 1)).map fun i=>⟨(i:Int) + 1,-1⟩:=by
  rw [sk,nm,nP];rfl
 have htm:∀ {t:wAJ},wKr k t->∀ i,i < k + 1->wKr i (gd (T ++ [t]) i):=fun {t} ht i hi=>by
  by_cases c:i < k
  ·rw [wGP (by omega)];exact tm i c
  ·have e:gd (T ++ [t]) i=t:=by
    rw [show i=T.length by omega];exact wND T t
   rw [e,show i=k by omega];exact ht
 by_cases cq:q=true
 ·rw [if_pos cq,cut1,hD,wDV (by simp only [nB,nQ];omega),hD,wDV (by simp only [nB,nQ];omega),hD]
  rw [if_neg (by simp)]
  refine ⟨_,rfl,⟨by simp only;omega,hsk,by simp [tl],htm ⟨by simp,rfl,3000 + a,by omega,.inl rfl⟩,dc.none tl fun hf=>?_⟩⟩
  simp [full,gd] at hf
 ·rw [if_neg cq,wDV (by simp only [nB,nQ];omega),hD,wDV (by simp only [nB,nQ];omega),hD]
  have hu:=wJS ok
  have hT:wKr k ⟨((k + 1:Nat):Int),[0],[⟨0,[3000 + a,3000 + b],[R]⟩]⟩:=⟨by simp,rfl,3000 + a,by omega,.inr ⟨3000 + b,R,by omega,ok,rfl⟩⟩
  have hun:unT [(⟨0,[3000 + a,3000 + b],[R]⟩:wAR)]=un R:=by simp [unT,unB]
  have hm0:0 <= un R * x21:=nr hu.1 hx.1
  have hm1:un R * x21 <= 3 * 1300:=ns hu.2 (by omega) hx.1 (by omega)
  by_cases cu:0 < un R
  ·rw [if_pos (show (0:Int) < if wFu R < 5 then 8 - (R.length:Int) else 0 from cu),wDV (by simp only [nB,nQ];omega),hD,wAa (x:=n + 1) (by omega) (by omega)]
   refine ⟨_,rfl,⟨by simp only;omega,hsk,by simp [tl],htm hT,?_⟩⟩
   have:=dc.more tl (t:=⟨((k + 1:Nat):Int),[0],[⟨0,[3000 + a,3000 + b],[R]⟩]⟩) (m:=un R * x21) (by omega) (by rw [hun])
   have ew:w64 ((if wFu R < 5 then 8 - (R.length:Int) else 0) * x21)=un R * x21:=wAa (by show -_ <= un R * x21;omega) (by show un R * x21 <= _;omega)
   simp only
   rw [ew]
   exact this
  ·rw [if_neg (show ¬ (0:Int) < if wFu R < 5 then 8 - (R.length:Int) else 0 from cu)]
   refine ⟨_,rfl,⟨by simp only;omega,hsk,by simp [tl],htm hT,dc.none tl fun _=>?_⟩⟩
   rw [hun,show un R=0 by omega]
   exact Int.zero_mul _
theorem wNv {x21:Int} (hx:0 <= x21/\x21 < 1300) {n:Nat} (hn:n <= 8) {d:wAO} (d0:0 <= d.next) (d1:d.next <= 10):∃ s,wGR 0 (n:Int) (tmU x21) (d.bytes,d.next,d.state,[],[],[],1)=some (.inl s)/\wNu x21 n s:=by
 rw [wEF (by omega)]
 rcases wHq (B:=Bool) (body:=tmU x21) (fun k s=>wNu x21 k s) (fun _=>False) n 0 (d.bytes,d.next,d.state,[],[],[],1)
  ⟨by simp only;omega,rfl,rfl,fun _ h=>by omega,⟨rfl,by simp,fun d hd=>by simp at hd,kM,fun _ h=>by omega⟩⟩
  (fun k s _ hk I=>.inl (tm_is hx (by omega) I)) with ⟨s',e,h⟩ | ⟨_,_,h⟩
 ·rw [kP] at h
  exact ⟨s',e,h⟩
 ·exact h.elim
def wCL (x21:Int) (T:List wAJ):wAS:=⟨⟨[0],1,2,70,240,x21⟩,0,T⟩
theorem wPA {x21:Int} (hx:0 <= x21/\x21 < 1300) {T:List wAJ} (hT:1 <= T.length/\T.length <= 8) (h:∀ i,i < T.length->wKr i (gd T i)):wIS (wCL x21 T):=by
 refine ⟨⟨by show 1 <= [(0:Int)].length/\_;simp [wCL],fun c hc=>?_,by simp [wCL],by simp [wCL],by simp [wCL],by simp [wCL],by show 0 <= x21/\x21 <= 6000;omega⟩,by show 1 <= T.length/\T.length <= 12;omega,by simp [wCL],fun t ht=>?_,?_⟩
 ·have:c=0:=by simpa [wCL] using hc
  omega
 ·obtain ⟨i,hi,e⟩:=nE (show t ∈ T from ht)
  rw [<- wDb hi] at e
  obtain ⟨h1,h2,a,h3,h4⟩:=h i hi
  rw [e] at h1 h2 h4
  have hlen:t.Legs.length=1:=by
   rcases h4 with h4 | ⟨_,_,_,_,h4⟩ <;> rw [h4] <;> rfl
  refine ⟨by omega,by rw [h2];simp,fun c hc=>?_,by rw [hlen];simp [wCL],fun k hk=>by omega,fun l hl=>?_⟩
  ·rw [h2] at hc
   have:c=0:=by simpa using hc
   omega
  ·rcases h4 with h4 | ⟨b,R,h5,h6,h4⟩
   ·rw [h4,nI] at hl
    subst hl
    exact ⟨by simp [wCL],rfl,fun n hn=>by rw [nI] at hn;omega,by rw [h2];simp,fun b hb=>by simp at hb⟩
   ·rw [h4,nI] at hl
    subst hl
    refine ⟨by simp [wCL],rfl,fun n hn=>?_,by rw [h2];simp,fun b hb=>?_⟩
    ·simp only [ny,List.not_mem_nil,or_false] at hn
     omega
    ·rw [nI] at hb
     rw [hb];exact h6
 ·show (T.map _).Nodup
  rw [nL,nA]
  intro i j hi hj hij
  rw [nD] at hi hj
  rw [nJ,nJ,<- wDb hi,<- wDb hj,(h i hi).bib,(h j hj).bib]
  omega
theorem bcU {p:wAL} (h1:p.Spare=70) (h2:p.Loop=240) {R:List Bool} (ok:okB R):0 <= bc p R/\bc p R <= 1410:=by
 unfold bc
 rw [h1,h2]
 have:=wLF R
 have:=ok.1;have:=ok.2.1
 omega
theorem wGQ {x21:Int} {T:List wAJ} {i:Nat} (hi:i < T.length) (h:wKr i (gd T i)) :
  (full (gd T i)=false/\∃ a,3000 <= a/\a < 3090/\gd (after (wCL x21 T)) i=[a]/\gd (wEa (wCL x21 T)) i=[]) \/
  (full (gd T i)=true/\∃ a b,3000 <= a/\a < 3090/\6000 <= b/\b <= 8000/\gd (after (wCL x21 T)) i=[a,b]/\gd (wEa (wCL x21 T)) i=[b]):=by
 have e1:gd (after (wCL x21 T)) i=wEY (wCL x21 T).Rules (gd T i).Legs 0:=by unfold after;exact wGL _ hi
 have e2:gd (wEa (wCL x21 T)) i=wNO (wCL x21 T).Rules (gd T i).Legs 0:=by unfold wEa;exact wGL _ hi
 rw [e1,e2]
 obtain ⟨_,_,a,h3,h4⟩:=h
 rcases h4 with h4 | ⟨b,R,h5,h6,h4⟩
 ·left
  rw [h4]
  refine ⟨by unfold full;rw [h4];rfl,a,h3.1,h3.2,?_,?_⟩
  ·simp [wEY,wLi,tAt,nm,gd]
  ·simp [wNO,wCL]
 ·right
  have hb:=bcU (p:=(wCL x21 T).Rules) rfl rfl h6
  rw [h4]
  have e:wJP (wCL x21 T).Rules ⟨0,[a,b],[R]⟩ 0=a + b + bc (wCL x21 T).Rules R:=by
   show tAt _ _ _ 2=_
   simp [tAt,gd]
  refine ⟨by unfold full;rw [h4];rfl,a,a + b + bc (wCL x21 T).Rules R,h3.1,h3.2,by omega,by omega,?_,?_⟩
  ·simp [wEY,wLi,tAt,nm,gd]
  ·rw [wNO,if_pos (by simp [wCL]),e]
   rfl
theorem wOK {a t:Int}:cn [a] t=if a <= t then 1 else 0:=by
 unfold cn
 rw [nl]
 by_cases h:a <= t <;> simp [h]
theorem wOL {a b t:Int}:cn [a,b] t=(if a <= t then 1 else 0) + if b <= t then 1 else 0:=by
 unfold cn
 rw [nl,nl]
 by_cases h:a <= t <;> by_cases h2:b <= t <;> simp [h,h2]
theorem wNw {x21:Int} {T:List wAJ} (h:∀ i,i < T.length->wKr i (gd T i)) {D:List Int} {A:List wAN} {τ:Nat->Option Int} (R:RunP (wEp (wCL x21 T)) D A τ):(∀ i,i < T.length->τ i=none)/\A=[]:=by
 have hb:(wEp (wCL x21 T)).Bibs.length=T.length:=by show (T.map _).length=_;rw [nD]
 have key:∀ i,i < T.length->τ i=none:=fun i hi=>by
  cases hτ:τ i with
  | none=>rfl
  | some s =>
   obtain ⟨l,hl,hs⟩:=R.in_ i s (by omega) hτ
   obtain ⟨j,hj,e⟩:=nE hl
   rw [<- wDb hj] at e
   have hjl:j < T.length:=by
    have:(wEp (wCL x21 T)).Times.length=T.length:=by show (after _).length=_;unfold after;rw [nD];rfl
    omega
   obtain ⟨k,hk,_,hk2,hk3⟩:=(R.ex i (by omega) j (by omega) s (by rw [e];exact hs) (fun s' h'=>by rw [hτ] at h';cases h';exact nU _)).1 hτ
   have ei:∀ q,gd (wEp (wCL x21 T)).Times q=gd (after (wCL x21 T)) q:=fun _=>rfl
   rw [ei,ei] at hk3
   rw [ei] at hk2
   rcases wGQ (x21:=x21) (i:=k) (by omega) (h k (by omega)) with ⟨_,a,a1,a2,a3,_⟩ | ⟨_,a,b,a1,a2,a3,a4,a5,_⟩
   ·rw [a3,wOK] at hk3
    split at hk3 <;> omega
   ·rw [a5,wOL] at hk3
    have hbs:b <= s:=by
     by_cases c:b <= s
     ·exact c
     ·rw [if_neg c] at hk3
      split at hk3 <;> omega
    have:1 <= cn (gd (after (wCL x21 T)) i) s:=by
     rcases wGQ (x21:=x21) (i:=i) hi (h i hi) with ⟨_,c,c1,c2,c3,_⟩ | ⟨_,c,d,c1,c2,c3,c4,c5,_⟩
     ·rw [c3,wOK,if_pos (by omega)];exact kH _
     ·rw [c5,wOL,if_pos (by omega)];exact Nat.le_add_right _ _
    split at hk3 <;> omega
 refine ⟨key,?_⟩
 cases hA:A with
 | nil=>rfl
 | cons o A' =>
  obtain ⟨i,hi,E⟩:=R.ents.of o (by rw [hA];simp)
  have:=key i (by omega)
  rw [E.time] at this
  cases this
end Go.Proofs.YtlmekamhphnmjaaGreat
namespace Go.Proofs.YtlmekamhphnmjaaGreat
open Go.KL
def skU (x970:List (List Int)) (k1056:Nat) (l1055:List wAI):Option (List wAI) :=
                (idx x970 (↑k1056:Int)).bind fun x1079 =>
                if 0 < (↑x1079.length:Int) then
                  (idx x1079 0).bind fun x1096 =>
                  (chk (↑k1056:Int) l1055.length).bind fun _ =>
                  some (hM l1055 k1056 (⟨(gd l1055 k1056).Bib,x1096⟩:wAI))
                else
                  some l1055
def cmU (x1004:List wAD) (x1140:List wAA) (k1160:Nat) (_:Unit):Option (Unit ⊕ Bool) :=
                    (chk (↑k1160:Int) x1004.length).bind fun _ =>
                    (chk (↑k1160:Int) x1140.length).bind fun _ =>
                    (if ((gd x1004 k1160).Place)=0 then
                      if ((gd x1140 k1160).Place)=(-1) then
                        if 0 < ((gd x1004 k1160).Place) then
                          if ((gd x1140 k1160).Bib)=((gd x1004 k1160).Bib) then
                            if ((gd x1140 k1160).Place)=((gd x1004 k1160).Place) then
                              some (decide (¬ (((gd x1140 k1160).Total)=((gd x1004 k1160).Time))))
                            else
                              some true
                          else
                            some true
                        else
                          some false
                      else
                        some true
                    else
                      if 0 < ((gd x1004 k1160).Place) then
                        if ((gd x1140 k1160).Bib)=((gd x1004 k1160).Bib) then
                          if ((gd x1140 k1160).Place)=((gd x1004 k1160).Place) then
                            some (decide (¬ (((gd x1140 k1160).Total)=((gd x1004 k1160).Time))))
                          else
                            some true
                        else
                          some true
                      else
                        some false).bind fun b1204 =>
                    if b1204=true then
                      esc (some false)
                    else
                      some (.inl ())
theorem wJa (p0:List Int) (p1:Int):wCm p0 p1 =
 (wDs p0).bind fun x1 =>
 (wCb p1 1300).bind fun x21 =>
 (wBN x1 1 8).bind fun (x46,x47) =>
 jn (wGR 0 x46 (tmU x21) (x47.bytes,x47.next,x47.state,[],[],[],1)) fun (_,_,_,y933,y934,y935,_) =>
 (wDw (wCL x21 y935)).bind fun (x970,x971) =>
 (wEe (wCL x21 y935)).bind fun (x988,x989) =>
 (wCi (wCL x21 y935)).bind fun (x1004,x1005) =>
 if x971=0 then
  if x989=0 then
   if x1005=0 then
    if 0 < (↑x988.length:Int) then
     some false
    else
     if (↑x970.length:Int)=(↑y935.length:Int) then
      if (↑x1004.length:Int)=(↑y935.length:Int) then
       (wCM 0 (↑x970.length:Int) (skU x970) y933).bind fun y1061 =>
       (wDx (⟨0,y1061,y934⟩:wAV)).bind fun (x1140,x1141) =>
       if x1141=0 then
        if (↑x1140.length:Int)=(↑x1004.length:Int) then
         jn (wGR 0 (↑x1004.length:Int) (cmU x1004 x1140) ()) fun _ =>
         some true
        else
         some false
       else
        some false
      else
       some false
     else
      some false
   else
    some false
  else
   some false
 else
  some false:=rfl
def skR (Tm:List (List Int)) (i:Nat):wAI:=⟨(i:Int) + 1,if (gd Tm i).length=0 then -1 else gd (gd Tm i) 0⟩
theorem sk_is {Tm:List (List Int)} {n:Nat} (hn:Tm.length=n) (h8:n <= 8) (hl:∀ i,i < n->(gd Tm i).length <= 1):wCM 0 (↑Tm.length:Int) (skU Tm) ((nM n).map fun (i:Nat)=>(⟨(i:Int) + 1,-1⟩:wAI))=some ((nM n).map (skR Tm)):=by
 obtain ⟨s,e,h1,h2⟩:=wEO (body:=skU Tm) (n:=Tm.length) (s0:=(nM n).map fun (i:Nat)=>(⟨(i:Int) + 1,-1⟩:wAI))
  (fun k s=>s.length=n/\∀ i,i < n->gd s i=if i < k then skR Tm i else ⟨(i:Int) + 1,-1⟩) (by omega)
  ⟨by simp,fun i hi=>by rw [if_neg (by omega),wGL _ (by simpa using hi),wDb (by simpa using hi)];simp⟩ (fun k s hk ⟨i1,i2⟩=>by
   unfold skU
   rw [wBB hk,hD]
   by_cases c:0 < ((gd Tm k).length:Int)
   ·have h0:idx (gd Tm k) 0=some (gd (gd Tm k) 0):=wBB (l:=gd Tm k) (k:=0) (by omega)
    rw [if_pos c,h0,hD,wDy (by omega) (by omega),hD]
    refine ⟨_,rfl,by simp [i1],fun i hi=>?_⟩
    rw [wKk (by omega) (by omega)]
    by_cases e:i=k
    ·subst e
     rw [if_pos rfl,if_pos (by omega),i2 i hi,if_neg (by omega)]
     unfold skR
     rw [if_neg (by omega)]
    ·rw [if_neg e,i2 i hi]
     by_cases c2:i < k
     ·rw [if_pos c2,if_pos (by omega)]
     ·rw [if_neg c2,if_neg (by omega)]
   ·rw [if_neg c]
    refine ⟨_,rfl,i1,fun i hi=>?_⟩
    rw [i2 i hi]
    by_cases e:i=k
    ·subst e
     rw [if_neg (by omega),if_pos (by omega)]
     unfold skR
     rw [if_pos (by omega)]
    ·by_cases c2:i < k
     ·rw [if_pos c2,if_pos (by omega)]
     ·rw [if_neg c2,if_neg (by omega)])
 rw [e]
 congr 1
 refine wOG (by rw [h1];simp) fun i hi=>?_
 rw [h2 i (by omega),if_pos (by omega),wGL _ (by simp;omega),wDb (by simp;omega)]
 simp
def lnU (x:wAD):wAA:=⟨x.Bib,0,x.Time⟩
theorem wLt (p0:List Int) (p1:Int) (_:-9223372036854775808 <= p1) (_:p1 <= 9223372036854775807):wCm p0 p1=some true:=by
 rw [wJa]
 unfold wDs
 rw [hD]
 obtain ⟨x21,e1,x0,x1⟩:=foldU p1 (n:=1300) (by omega) (by omega)
 rw [e1,hD]
 obtain ⟨n1,d1,e2,a0,a1,a2,a3⟩:=wOx (⟨p0,0,17⟩:wAO) 1 8 (by simp) (by simp) (by omega) (by omega) (by omega)
 simp only at a1
 obtain ⟨n,rfl⟩:∃ n:Nat,n1=(n:Int):=⟨n1.toNat,by omega⟩
 rw [e2,hD]
 simp only
 obtain ⟨⟨l,y,st,S,D,T,nn⟩,e3,nx,sk,tl,tm,dc⟩:=wNv ⟨x0,x1⟩ (n:=n) (by omega) a0 (by omega)
 simp only at nx sk tl tm dc
 subst tl
 subst sk
 rw [e3,wKO]
 simp only
 have g:=wPA ⟨x0,x1⟩ (T:=T) (by omega) tm
 have hTm:(wEa (wCL x21 T)).length=T.length:=by unfold wEa;rw [nD];rfl
 obtain ⟨p,A,τ,e4,R⟩:=wPg (wOm g).g
 obtain ⟨hτ,hA⟩:=wNw tm R
 obtain ⟨F,O,e5,P⟩:=wLr g e4 R
 rw [wNn g,hD]
 simp only
 rw [wPk g e4,hD]
 simp only
 rw [e5,hD]
 simp only
 subst hA
 have lF:=P.fp.length_eq
 have lO:=P.op.length_eq
 have ltot:(wFn F ++ O).length=T.length:=by
  rw [nG,wFW,lF,lO]
  have hr:=wHt (wCL x21 T) [] p.done
  unfold wKi wLo
  rw [nD,nD]
  generalize wIY (wCL x21 T) [] p.done=rs at hr
  have:∀ l:List Rc,(l.filter fun x=>x.fin).length + (l.filter fun x=>!x.fin).length=l.length:=fun l=>by
   induction l with
   | nil=>rfl
   | cons a l ih=>cases h:a.fin <;> simp [h] <;> omega
  rw [this,hr]
  rfl
 rw [if_pos trivial,if_pos trivial,if_pos trivial,if_neg (by simp),if_pos (by rw [hTm]),if_pos (by rw [ltot])]
 have lone:∀ i,i < T.length->(gd (wEa (wCL x21 T)) i).length <= 1:=fun i hi=>by
  rcases wGQ (x21:=x21) hi (tm i hi) with ⟨_,_,_,_,_,h⟩ | ⟨_,_,_,_,_,_,_,_,h⟩ <;> rw [h] <;> simp
 rw [sk_is hTm (by omega) lone,hD]
 have tall:∀ i,i < T.length->(full (gd T i)=false/\(wJd (wCL x21 T) [] p.done i).fin=false/\(skR (wEa (wCL x21 T)) i).Time=-1) \/
   (full (gd T i)=true/\(wJd (wCL x21 T) [] p.done i).fin=true/\(0 <= (skR (wEa (wCL x21 T)) i).Time/\(skR (wEa (wCL x21 T)) i).Time <= 8000)/\(wJd (wCL x21 T) [] p.done i).time=(skR (wEa (wCL x21 T)) i).Time + wGi D ((i:Int) + 1)):=fun i hi=>by
  have hL:(wEp (wCL x21 T)).Laps=2:=rfl
  rcases wGQ (x21:=x21) hi (tm i hi) with ⟨f,a,_,_,h1,h2⟩ | ⟨f,a,b,_,_,b0,b1,h1,h2⟩
  ·refine .inl ⟨f,?_,?_⟩
   ·unfold wJd
    simp only [h1,hL]
    simp
   ·unfold skR
    simp only [h2]
    simp
  ·refine .inr ⟨f,?_,?_,?_⟩
   ·unfold wJd
    simp only [h1,hL]
    simp
   ·unfold skR
    simp only [h2]
    simp [gd]
    omega
   ·have:=dc.sum i hi f
    unfold wJd skR
    simp only [h1,h2,hL,this]
    rfl
 have G:wKn ⟨0,(nM T.length).map (skR (wEa (wCL x21 T))),D⟩:=by
  refine ⟨by simp;omega,by simp;omega,by simp,by simp,by have:=dc.le;simp only;omega,fun s hs=>?_,?_,fun d hd=>?_,dc.inc⟩
  ·obtain ⟨i,hi,rfl⟩:=nR.1 hs
   have hi':i < T.length:=by simpa using hi
   have hb:(skR (wEa (wCL x21 T)) i).Bib=(i:Int) + 1:=rfl
   rcases tall i hi' with ⟨_,_,h⟩ | ⟨_,_,h,_⟩ <;> omega
  ·rw [nS]
   refine kU.imp fun {a b} h=>?_
   show (a:Int) + 1 < (b:Int) + 1
   omega
  ·obtain ⟨b1,b2,b3,b4,b5,b6,b7,b8,b9⟩:=dc.of d hd
   have:=dc.len;have:=dc.le
   refine ⟨b1,by omega,.inl b3,b4,b5,by omega,b7,nR.2 ⟨skR (wEa (wCL x21 T)) (d.Bib - 1).toNat,nR.2 ⟨_,by simp;omega,rfl⟩,?_⟩⟩
   show (((d.Bib - 1).toNat:Nat):Int) + 1=d.Bib
   omega
 obtain ⟨Z,lines,e6,Q⟩:=wOv G
 rw [e6,hD]
 simp only
 have ll:lines.length=T.length:=by rw [Q.len];simp
 rw [if_pos trivial,if_pos (by rw [ll,ltot])]
 have same:(wKi (wIY (wCL x21 T) [] p.done)).map lnU=wNC ⟨0,(nM T.length).map (skR (wEa (wCL x21 T))),D⟩ ((nM T.length).map (skR (wEa (wCL x21 T)))):=by
  unfold wKi wNC wIY
  rw [List.filter_map,List.filter_map,nq,nq,nq]
  have hf:(nM T.length).filter ((fun x=>x.fin) ∘ wJd (wCL x21 T) [] p.done)=(nM T.length).filter ((fun s=>!decide (s.Time=-1)) ∘ skR (wEa (wCL x21 T))):=by
   refine List.filter_congr fun i hi=>?_
   have hi':i < T.length:=by simpa using hi
   simp only [Function.comp]
   rcases tall i hi' with ⟨_,h1,h2⟩ | ⟨_,h1,h2,_⟩
   ·rw [h1,h2];rfl
   ·rw [h1,decide_eq_false (by omega)];rfl
  show List.map _ ((nM T.length).filter _)=_
  rw [hf]
  refine List.map_congr_left fun i hi=>?_
  obtain ⟨hr,hc⟩:=List.mem_filter.1 hi
  have hi':i < T.length:=by simpa using hr
  simp only [Function.comp]
  rcases tall i hi' with ⟨_,_,h2⟩ | ⟨_,_,_,h3⟩
  ·simp [h2] at hc
  ·have hb:(gd T i).Bib=(i:Int) + 1:=(tm i hi').bib
   show (⟨(gd T i).Bib,0,(wJd (wCL x21 T) [] p.done i).time⟩:wAA)=⟨(i:Int) + 1,0,_⟩
   rw [hb,h3]
   rfl
 have eZ:F.map lnU=Z:=by
  refine wLn (k1:=fun x:wAA=>x.Total) (k2:=fun x:wAA=>x.Bib) ?_ (Q.ord.imp fun h=>h) ((P.fp.map lnU).trans ((List.Perm.of_eq same).trans Q.perm.symm))
  rw [nS]
  exact P.fo
 have lZ:Z.length=F.length:=by rw [<- eZ,nD]
 have gZ:∀ k,k < F.length->gd Z k=lnU (gd F k):=fun k hk=>by rw [<- eZ];exact wGL _ hk
 have pl:∀ k,k < F.length->wOt (fun i=>(gd Z i).Total) k=plc F k:=by
  intro k
  induction k with
  | zero=>intro _;rfl
  | succ k ih =>
   intro hk
   rw [wOt,plc,ih (by omega),gZ _ hk,gZ _ (by omega)]
   rfl
 have body:∀ k s,k < (wFn F ++ O).length->cmU (wFn F ++ O) lines k s=some (.inl s):=fun k s hk=>by
  unfold cmU
  rw [wDy (by omega) (by omega),hD,wDy (by omega) (by omega),hD]
  by_cases c:k < F.length
  ·have e1:gd (wFn F ++ O) k=⟨(gd F k).Bib,plc F k,(gd F k).Time⟩:=by
    rw [wGP (by rw [wFW];exact c),wKD c]
   have e2:=Q.at_ k (by omega)
   rw [gZ k c,pl k c] at e2
   have pr:=wKE F k
   rw [e1,e2]
   simp only [lnU]
   rw [if_neg (by omega),if_pos (by omega),if_pos trivial,if_pos trivial]
   simp
  ·have e1:gd (wFn F ++ O) k ∈ O:=by
    rw [wDb hk,List.getElem_append_right (by rw [wFW];omega)]
    exact List.getElem_mem _
   obtain ⟨x,_,e1⟩:=nR.1 (P.op.mem_iff.1 e1)
   have e2:=Q.out k (by omega) (by omega)
   have e3:(gd (wFn F ++ O) k).Place=0:=by rw [<- e1];rfl
   rw [e2,e3,if_pos rfl,if_pos rfl,if_neg (by omega)]
   simp
 rw [wEm (by omega) fun k hk=>body k () hk]
 rfl
end Go.Proofs.YtlmekamhphnmjaaGreat
