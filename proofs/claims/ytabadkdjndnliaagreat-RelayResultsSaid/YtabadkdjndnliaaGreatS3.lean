import Derived.Test.YtabadkdjndnliaaGreatS2
import Derived.Test.YtabadkdjndnliaaGreatS0
import Derived.Lib.SlicesCompact
import Derived.Test.YtabadkdjndnliaaGreatS1
set_option linter.all false
open Option renaming bind_some->nA,getD_none->nj,isSome_some->ka
open List renaming pairwise_iff_getElem->nD,take_length->nE,set->nG,getElem_of_mem->nH,length_map->nI,getElem_map->nJ,nodup_iff_pairwise_ne->nK,map_append->nL,length_cons->nP,mem_singleton->nQ,mem_append->nS,length_take->nT,mem_of_mem_take->nV,all_eq_true->nX,length_append->nY,mem_map->na,nodup_append->nc,append_assoc->ng,flatMap->nh,length_set->nk,range->nm,pairwise_mergeSort->nn,all_cons->np,mem_cons->nq,length_filter_le->ns,take_append_drop->nt,pairwise_append->nv,countP_eq_zero->nw,mergeSort_perm->ny,replicate->kA,pairwise_cons->kF,any_cons->kG,map_cons->kH,pairwise_map->kI,getElem?_eq_getElem->kL,cons_append->kM,pairwise_singleton->kP,range_succ->kQ,foldl_cons->kS,length_nil->kT,drop_eq_nil_of_le->kU,drop_zero->kV,map_take->kW,filter_sublist->kX,mem_cons_self->kZ,map_map->kb,filter_append->kc,length_range->ke,foldl_append->kf
open Bool renaming and_eq_true->nM,true_and->nO,not_eq_true'->nR,eq_false_iff->nZ,false_eq_true->nl,noConfusion->nr,false_and->kD,eq_iff_iff->kR
open Int renaming toNat_natCast->nN,le_refl->nU,mul_nonneg->kB,mul_le_mul->kC,le_of_lt->kO
open Option.some renaming inj->nW
open Nat renaming lt_or_ge->nu,le_refl->kE,lt_trichotomy->kJ,le_trans->kK,add_sub_cancel->kd
open Go.Value renaming int->kY
namespace Go.KL
open Go.RowKit Go.Lib Go.Sort
def wIr (l:List Int):Option (List Int):=if l.length < 4611686018427387904 then some (Go.Lib.compact l) else none
theorem wLf (l:List Int):(Go.Lib.compact l).length <= l.length:=by
 unfold Go.Lib.compact Go.Lib.compactUpTo
 rw [nI]
 exact kK (ns _ _) (by simp)
theorem wLg {P:Program} {f T:Nat} {A:Option Addr} {c:Nat} {p r:List Int} {w:World} {U:PHeap}
  (H:∀ (blk off cap:Nat) (zs:List Int) (w:World),Go.Sort.Holds (kY .i64) w blk off zs.toArray->zs.length <= 9223372036854775807->zs.length <= cap->Calls P f #[.slice (some ⟨blk,off,none⟩) zs.length cap] w fun e w'=>e=.returned (.slice (some ⟨blk,off,none⟩) (Go.Lib.compact zs).length cap)/\∃ q,w'=Go.Sort.putRow (kY .i64) (Go.Sort.ahead w q) blk off (Go.Lib.compact zs ++ kA (zs.length - (Go.Lib.compact zs).length) 0).toArray)
  (HN:∀ (p:Option Addr) (cap:Nat) (w:World),Calls P f #[.slice p 0 cap] w fun e w'=>e=.returned (.slice p 0 cap)/\w'=w)
  (hS:St ⟨w,[.row A c T 1 (nh encI p)],U⟩ U [.row A c T 1 (nh encI p)] w) (hm:wIr p=some r) :
  Gv P f [.slice A p.length c] w (wBp w [.row A c T 1 (nh encI p)] U fun U_ L_ v=>∃ (A0:Option Addr) (c0:Nat),v=.slice A0 r.length c0/\L_=[.row A0 c0 T 1 (nh encI r)]):=by
 unfold wIr at hm
 split at hm
 ·rename_i hlen
  cases hm
  have hfl:∀ l:List Int,l.flatMap encI=l.map (kY .i64):=fun l=>wJI l
  have hr:=hS.at_ _ (kZ ..)
  have nil:p=[]->Gv P f [.slice A p.length c] w (wBp w [.row A c T 1 (nh encI p)] U fun U_ L_ v=>∃ (A0:Option Addr) (c0:Nat),v=.slice A0 (Go.Lib.compact p).length c0/\L_=[.row A0 c0 T 1 (nh encI (Go.Lib.compact p))]):=by
   rintro rfl
   refine Calls.mono' (HN A c w) ?_
   rintro e w' ⟨rfl,rfl⟩
   exact ⟨_,rfl,U,_,hS,A,c,rfl,rfl⟩
  rcases hr with ⟨rfl,rfl,h0⟩ | ⟨b,cur,rfl,h1,h2,_⟩
  ·refine nil ?_
   rw [hfl] at h0
   simpa using h0
  ·obtain ⟨g1,g2⟩:=hS.holds (k:=0) rfl
   rw [hfl] at g1 h2
   refine Calls.mono' (H b 0 c p w (wKl _ _ _ _ _ (by simpa using g1)) (by omega) (by simpa using h2)) ?_
   rintro e w' ⟨rfl,n,rfl⟩
   have hl:=wLf p
   have s1:=hS.sorted (k:=0) (n:=n) (os:=#[]) (cs':=(Go.Lib.compact p ++ kA (p.length - (Go.Lib.compact p).length) 0).map (kY .i64)) rfl (by rw [hfl];simp;omega)
   have e0:∀ x:World,Go.Sort.grow x #[]=x:=fun x=>by simp [Go.Sort.grow]
   rw [e0,nL] at s1
   have s2:=s1.cutRow (k:=0) rfl
   refine ⟨_,rfl,U,[.row (some ⟨b,0,none⟩) c T 1 (nh encI (Go.Lib.compact p))],?_,_,c,rfl,rfl⟩
   rw [wJq,hfl (Go.Lib.compact p)]
   simpa using s2
 ·cases hm
end Go.KL
namespace Go.Proofs.YtabadkdjndnliaaGreat
open Go.KL
noncomputable section
structure wAE where
 Classes:List Int
 Each:Int
 Laps:Int
 Spare:Int
 Loop:Int
 Unused:Int
deriving DecidableEq,Inhabited,Repr
structure wAN where
 Skier:Int
 Loops:List Int
 Bouts:List (List Bool)
deriving DecidableEq,Inhabited,Repr
structure wAH where
 Bib:Int
 Classes:List Int
 Legs:List wAN
deriving DecidableEq,Inhabited,Repr
structure wAD where
 Rules:wAE
 Start:Int
 Teams:List wAH
deriving DecidableEq,Inhabited,Repr
structure wAa where
 Spares:Int
 Loops:Int
 Unused:Int
deriving DecidableEq,Inhabited,Repr
structure wAU where
 of:(wAE->Option Int)
 lo:Int
 hi:Int
structure wEG where
 Race:wAD
 after:List (List Int)
deriving DecidableEq,Inhabited,Repr
structure wAF where
 Laps:Int
 Bibs:List Int
 Times:List (List Int)
deriving DecidableEq,Inhabited,Repr
structure wAL where
 Race:wAF
 done:List Int
 out:List Bool
deriving DecidableEq,Inhabited,Repr
structure wAG where
 Bib:Int
 Done:Int
 Time:Int
 By:Int
deriving DecidableEq,Inhabited,Repr
structure wAB where
 Bib:Int
 Place:Int
 Time:Int
deriving DecidableEq,Inhabited,Repr
structure wCF where
 Classes:List Int
 Times:List (List Int)
deriving DecidableEq,Inhabited,Repr
structure wAt where
 Squad:wCF
 rules:wAE
deriving DecidableEq,Inhabited,Repr
structure wAS where
 Lo:Int
 Hi:Int
deriving DecidableEq,Inhabited,Repr
structure wCS where
 Skier:Int
 Loops:List Int
 Bouts:List (List Bool)
deriving DecidableEq,Inhabited,Repr
structure wCH where
 Bib:Int
 Classes:List Int
 Legs:List wCS
deriving DecidableEq,Inhabited,Repr
structure wAu where
 Classes:List Int
 Each:Int
 Laps:Int
 Spare:Int
 Loop:Int
 Unused:Int
deriving DecidableEq,Inhabited,Repr
structure wAT where
 Rules:wAu
 Start:Int
 Teams:List wCH
deriving DecidableEq,Inhabited,Repr
structure wAq where
 Spares:Int
 Loops:Int
 Unused:Int
deriving DecidableEq,Inhabited,Repr
structure wAn where
 Laps:Int
 Bibs:List Int
 Times:List (List Int)
deriving DecidableEq,Inhabited,Repr
structure wAf where
 Bib:Int
 Done:Int
 Time:Int
 By:Int
deriving DecidableEq,Inhabited,Repr
structure wAR where
 Bib:Int
 Place:Int
 Time:Int
deriving DecidableEq,Inhabited,Repr
def wDP (p0:wAD):Option (Bool) :=
 if 6 < (↑p0.Rules.Classes.length:Int) then
 some true
 else
 if 14 < (↑p0.Teams.length:Int) then
 some true
 else
 jn (wEh 0 (↑p0.Teams.length:Int) (fun k12 _ =>
 (idx p0.Teams (↑k12:Int)).bind fun x31 =>
 if 10 < (↑x31.Classes.length:Int) then
 esc (some true)
 else
 if 6 < (↑x31.Legs.length:Int) then
 esc (some true)
 else
 jn (wEh 0 (↑x31.Legs.length:Int) (fun k67 _ =>
 (idx x31.Legs (↑k67:Int)).bind fun x89 =>
 if 7 < (↑x89.Loops.length:Int) then
 esc (esc (some true))
 else
 if 7 < (↑x89.Bouts.length:Int) then
 esc (esc (some true))
 else
 jn (wEh 0 (↑x89.Bouts.length:Int) (fun k131 _ =>
 (idx x89.Bouts (↑k131:Int)).bind fun x156 =>
 if 12 < (↑x156.length:Int) then
 esc (esc (esc (some true)))
 else
 some (.inl ())) ()) fun _ =>
 some (.inl ())) ()) fun _ =>
 some (.inl ())) ()) fun _ =>
 some false
def wDD :Option ((List (List Bool))) :=
 some [[true,false,true,true,true,true],[false,false,false,true,true,true,true,true],[true,true,true,true,false,false,false,false],[false,true,true,true,true]]
def wBx (p0:Int) (p1:Int) (p2:Int):Option (Bool) :=
 if p1 <= p0 then
 some (decide (p0 <= p2))
 else
 some false
def wCr (p0:List Bool):Option (wAa × Int) :=
 (wBx (↑p0.length:Int) 5 8).bind fun x5 =>
 if x5=true then
 jn (wEh 0 (↑p0.length:Int) (fun k23 x22 =>
 (idx p0 (↑k23:Int)).bind fun x45 =>
 if x22=0 then
 esc (some ((⟨0,0,0⟩:wAa),8))
 else
 if x45=true then
 some (.inl (w64 (x22 - 1)))
 else
 some (.inl x22)) 5) fun y72 =>
 if 0 < y72 then
 some ((⟨w64 ((↑p0.length:Int) - 5),y72,w64 (8 - (↑p0.length:Int))⟩:wAa),0)
 else
 some ((⟨w64 ((↑p0.length:Int) - 5),y72,0⟩:wAa),0)
 else
 some ((⟨0,0,0⟩:wAa),2)
def wCT :Option (wAD) :=
 (wDD).bind fun x5 =>
 ((cut x5 0 1).bind fun x50 =>
 (cut x5 2 3).bind fun x67 =>
 (cut x5 3 (↑(x5.length):Int)).bind fun x131 =>
 some ([0,1],[(⟨7,[0,1],[(⟨0,[1000,1100],x50⟩:wAN),(⟨1,[900,950],x67⟩:wAN)]⟩:wAH),(⟨3,[1,0],[(⟨1,[1000,1150],[[true,true,true,true,true]]⟩:wAN),(⟨0,[900,1500],x131⟩:wAN)]⟩:wAH)])).bind fun (l20,l23) =>
 some (⟨(⟨l20,1,2,100,250,1200⟩:wAE),0,l23⟩:wAD)
def wCw (p0:Int) (p1:(Int->Option Bool)):Option (Bool) :=
 (p1 p0).bind fun x1 =>
 some (!x1)
def wCi (p0:List Int) (p1:(Int->Option Bool)):Option (Int) :=
 jn (wEh 0 (↑p0.length:Int) (fun k2 _ =>
 (idx p0 (↑k2:Int)).bind fun x22 =>
 (p1 x22).bind fun x30 =>
 if x30=true then
 esc (some (↑k2:Int))
 else
 some (.inl ())) ()) fun _ =>
 some (-1)
def wCG (p0:List Int) (p1:(Int->Option Bool)):Option (Bool) :=
 (wCi p0 p1).bind fun x1 =>
 some (decide (0 <= x1))
def wBg (p0:List Int) (p1:(Int->Option Bool)):Option (Bool) :=
 (wCG p0 (fun x=>wCw x p1)).bind fun x13 =>
 some (!x13)
def wBJ (p0:Int):Option (Bool) :=
 (wBx p0 0 3).bind fun x1 =>
 some x1
def wBz (p0:List Int):Option (Bool) :=
 (wBg p0 wBJ).bind fun x2 =>
 some x2
def wBh (p0:wAE):Option (Int) :=
 some p0.Each
def wBi (p0:wAE):Option (Int) :=
 some p0.Laps
def wBj (p0:wAE):Option (Int) :=
 some p0.Spare
def wBk (p0:wAE):Option (Int) :=
 some p0.Loop
def wBl (p0:wAE):Option (Int) :=
 some p0.Unused
def wEO :Option ((List wAU)) :=
 some [(⟨wBh,1,4⟩:wAU),(⟨wBi,1,5⟩:wAU),(⟨wBj,0,600⟩:wAU),(⟨wBk,0,600⟩:wAU),(⟨wBl,0,6000⟩:wAU)]
def wBt (p0:wAU) (p1:wAE):Option (Bool) :=
 (p0.of p1).bind fun x7 =>
 (wBx x7 p0.lo p0.hi).bind fun x17 =>
 some x17
def wBL (p0:wAU) (p1:(wAU->Option Bool)):Option (Bool) :=
 (p1 p0).bind fun x5 =>
 some (!x5)
def wAx (p0:List wAU) (p1:(wAU->Option Bool)):Option (Int) :=
 jn (wEh 0 (↑p0.length:Int) (fun k2 _ =>
 (idx p0 (↑k2:Int)).bind fun x22 =>
 (p1 x22).bind fun x34 =>
 if x34=true then
 esc (some (↑k2:Int))
 else
 some (.inl ())) ()) fun _ =>
 some (-1)
def wAs (p0:List wAU) (p1:(wAU->Option Bool)):Option (Bool) :=
 (wAx p0 p1).bind fun x1 =>
 some (decide (0 <= x1))
def wCM (p0:List wAU) (p1:(wAU->Option Bool)):Option (Bool) :=
 (wAs p0 (fun x=>wBL x p1)).bind fun x13 =>
 some (!x13)
def wBw (p0:wAE):Option (Int) :=
 (wBx (↑p0.Classes.length:Int) 1 4).bind fun x10 =>
 if x10=true then
 (wBz p0.Classes).bind fun x25 =>
 if x25=true then
 (wEO).bind fun x37 =>
 (wCM x37 (fun x=>wBt x p0)).bind fun x64 =>
 if x64=true then
 some 0
 else
 some 3
 else
 some 3
 else
 some 2
def wBM (p0:wAE) (p1:wAH):Option (Bool) :=
 (wBx (↑p1.Classes.length:Int) 1 8).bind fun x9 =>
 if x9=true then
 if (↑p0.Classes.length:Int) < (↑p1.Legs.length:Int) then
 some false
 else
 jn (wEh 0 (↑p1.Legs.length:Int) (fun k25 _ =>
 (idx p1.Legs (↑k25:Int)).bind fun x46 =>
 if p0.Laps < (↑x46.Loops.length:Int) then
 esc (some false)
 else
 if (↑k25:Int) < (w64 ((↑p1.Legs.length:Int) - 1)) then
 if (↑x46.Loops.length:Int) < p0.Laps then
 esc (some false)
 else
 if (↑x46.Bouts.length:Int)=(max 0 (w64 ((↑x46.Loops.length:Int) - 1))) then
 some (.inl ())
 else
 esc (some false)
 else
 if (↑x46.Bouts.length:Int)=(max 0 (w64 ((↑x46.Loops.length:Int) - 1))) then
 some (.inl ())
 else
 esc (some false)) ()) fun _ =>
 some true
 else
 some false
def wBA (p0:wAH) (p1:(wAH->Option Bool)):Option (Bool) :=
 (p1 p0).bind fun x5 =>
 some (!x5)
def wAp (p0:List wAH) (p1:(wAH->Option Bool)):Option (Int) :=
 jn (wEh 0 (↑p0.length:Int) (fun k2 _ =>
 (idx p0 (↑k2:Int)).bind fun x22 =>
 (p1 x22).bind fun x38 =>
 if x38=true then
 esc (some (↑k2:Int))
 else
 some (.inl ())) ()) fun _ =>
 some (-1)
def wAk (p0:List wAH) (p1:(wAH->Option Bool)):Option (Bool) :=
 (wAp p0 p1).bind fun x1 =>
 some (decide (0 <= x1))
def wAz (p0:List wAH) (p1:(wAH->Option Bool)):Option (Bool) :=
 (wAk p0 (fun x=>wBA x p1)).bind fun x13 =>
 some (!x13)
def wDQ (p0:wAH):Option (Bool) :=
 (wBx p0.Bib 1 999).bind fun x5 =>
 if x5=true then
 (wBz p0.Classes).bind fun x18 =>
 some x18
 else
 some false
def wBN {S E:Type} (f:S->(wAH × wAN)->Option (S ⊕ E)) (s0:S) (p1:wAD):Option (S ⊕ E) :=
 jn (wEh 0 (↑p1.Teams.length:Int) (fun k12 s10 =>
  (idx p1.Teams (↑k12:Int)).bind fun x33 =>
  jn (wEh 0 (↑x33.Legs.length:Int) (fun k66 s64 =>
   (idx x33.Legs (↑k66:Int)).bind fun x91 =>
   (f s64 (x33,x91)).bind fun yr115 =>
   match yr115 with
   | .inl s125 =>
    some (.inl s125)
   | .inr s125 =>
    esc (esc (some (.inr s125)))) s10) fun y142 =>
  some (.inl y142)) s0) fun y163 =>
 some (.inl y163)
def wCn (p0:wAD):Option (Unit) :=
 some ()
def wCU (p0:Int):Option (Bool) :=
 (wBx p0 1 9000).bind fun x1 =>
 some x1
def wDI (p0:wAD):Option (Int) :=
 (wBw p0.Rules).bind fun x9 =>
 if x9=0 then
  (wBx (↑p0.Teams.length:Int) 1 12).bind fun x21 =>
  if x21=true then
   (wAz p0.Teams (fun x=>wBM p0.Rules x)).bind fun x38 =>
   if x38=true then
    (wBx p0.Start 0 36000).bind fun x50 =>
    if x50=true then
     (wAz p0.Teams wDQ).bind fun x65 =>
     if x65=true then
      (wCn p0).bind fun _ =>
      (wBN (S:=Unit) (E:=Int) (fun _ x146 =>
       (wBg x146.2.Loops wCU).bind fun x191 =>
       if x191=true then
        some (.inl ())
       else
        some (.inr 3)) () p0).bind fun rr138 =>
      match rr138 with
      | .inl _ =>
       (wCn p0).bind fun _ =>
       (wBN (S:=Unit) (E:=Int) (fun _ x290 =>
        (wBx x290.2.Skier 0 (w64 ((↑x290.1.Classes.length:Int) - 1))).bind fun x341 =>
        if x341=true then
         some (.inl ())
        else
         some (.inr 1)) () p0).bind fun rr282 =>
       match rr282 with
       | .inl _ =>
        (wCn p0).bind fun _ =>
        (wBN (S:=Unit) (E:=Int) (fun _ x492 =>
         jn (wEh 0 (↑x492.2.Bouts.length:Int) (fun k537 _ =>
          (idx x492.2.Bouts (↑k537:Int)).bind fun x558 =>
          (wCr x558).bind fun (x571,x572) =>
          if x572=0 then
           some (.inl ())
          else
           esc (some (.inr x572))) ()) fun _ =>
         some (.inl ())) () p0).bind fun rr484 =>
        match rr484 with
        | .inl _ =>
         (wCE 0 (↑p0.Teams.length:Int) (fun k640 l637 =>
          (idx p0.Teams (↑k640:Int)).bind fun x664 =>
          some (wFf l637 x664.Bib true)) ([]:List (Int × Bool))).bind fun y645 =>
         if (↑(y645.length):Int) < (↑p0.Teams.length:Int) then
          some 5
         else
          some 0
        | .inr y618 =>
         some y618
       | .inr y364 =>
        some y364
      | .inr y214 =>
       some y214
     else
      some 3
    else
     some 3
   else
    some 2
  else
   some 2
 else
  some x9
def wDJ (p0:wAD):Option ((Option wEG) × Int) :=
 (wDI p0).bind fun x5 =>
 if x5=0 then
 (wCE 0 (↑p0.Teams.length:Int) (fun k42 l37 =>
 (idx p0.Teams (↑k42:Int)).bind fun x66 =>
 (wCE 0 (↑x66.Legs.length:Int) (fun k111 (x106,l107) =>
 (idx x66.Legs (↑k111:Int)).bind fun x140 =>
 (wCE 0 (↑x140.Loops.length:Int) (fun k181 (x177,l178) =>
 (idx x140.Loops (↑k181:Int)).bind fun x211 =>
 if 0 < (↑k181:Int) then
 (idx x140.Bouts (w64 ((↑k181:Int) - 1))).bind fun x221 =>
 (wCr x221).bind fun (x234,x235) =>
 (app 8 l178 [w64 ((w64 (x177 + x211)) + (w64 ((w64 (x234.Spares * p0.Rules.Spare)) + (w64 (x234.Loops * p0.Rules.Loop)))))]).bind fun x274 =>
 some (w64 ((w64 (x177 + x211)) + (w64 ((w64 (x234.Spares * p0.Rules.Spare)) + (w64 (x234.Loops * p0.Rules.Loop))))),x274)
 else
 (app 8 l178 [w64 (x177 + x211)]).bind fun x292 =>
 some (w64 (x177 + x211),x292)) (x106,l107)).bind fun (y186,y187) =>
 some (y186,y187)) (p0.Start,[])).bind fun (y116,y117) =>
 (app 24 l37 [y117]).bind fun x366 =>
 some x366) []).bind fun y47 =>
 some ((some (⟨p0,y47⟩:wEG)),0)
 else
 some (none,x5)
def wEY (p0:wEG) (p1:Int):Option ((List Int)) :=
 (idx p0.after p1).bind fun x2 =>
 (wCE 0 (↑x2.length:Int) (fun k31 l27 =>
 (idx x2 (↑k31:Int)).bind fun x55 =>
 (rem (↑(k31 + 1):Int) p0.Race.Rules.Laps).bind fun x63 =>
 if x63=0 then
 (app 8 l27 [x55]).bind fun x73 =>
 some x73
 else
 some l27) []).bind fun y36 =>
 some y36
def wGG (p0:wAD):Option ((List (List Int)) × Int) :=
 (wDJ p0).bind fun (x5,x6) =>
 match x5 with
 | none =>
  if x6=0 then
   (wCE 0 (↑p0.Teams.length:Int) (fun k29 _ =>
    none) ()).bind fun _ =>
   some ([],0)
  else
   some ([],x6)
 | some x24 =>
  if x6=0 then
   (wCE 0 (↑p0.Teams.length:Int) (fun k100 l95 =>
    (wEY x24 (↑k100:Int)).bind fun x129 =>
    (app 24 l95 [x129]).bind fun x153 =>
    some x153) []).bind fun y105 =>
   some (y105,0)
  else
   some ([],x6)
def wBT (p0:List Int):Option ((List Int)) :=
 (app 8 ([]:List Int) p0).bind fun x11 =>
 some x11
def wCN (p0:wEG):Option (wAF) :=
 (wCE 0 (↑p0.Race.Teams.length:Int) (fun k51 (l42,l46) =>
 (idx p0.Race.Teams (↑k51:Int)).bind fun x80 =>
 (app 8 l42 [x80.Bib]).bind fun x108 =>
 (idx p0.after (↑k51:Int)).bind fun x121 =>
 (wBT x121).bind fun x134 =>
 (app 24 l46 [x134]).bind fun x158 =>
 some (x108,x158)) ([],[])).bind fun (y56,y57) =>
 some (⟨w64 ((↑p0.Race.Rules.Classes.length:Int) * p0.Race.Rules.Laps),y56,y57⟩:wAF)
def wEK (p0:Int) (p1:Int) (p2:Int):Option (Bool) :=
 if p1 <= p0 then
 some (decide (p0 <= p2))
 else
 some false
def wCI (p0:List Int) (p1:wAF):Option (Bool) :=
 some (decide ((↑p0.length:Int) <= p1.Laps))
def wCs (p0:List (List Int)) (p1:((List Int)->Option Bool)):Option (Bool) :=
 jn (wEh 0 (↑p0.length:Int) (fun k2 _ =>
 (idx p0 (↑k2:Int)).bind fun x22 =>
 (p1 x22).bind fun x35 =>
 if x35=true then
 some (.inl ())
 else
 esc (some false)) ()) fun _ =>
 some true
def wBY (p0:List Int) (p1:(Int->Option Bool)):Option (Bool) :=
 jn (wEh 0 (↑p0.length:Int) (fun k2 _ =>
 (idx p0 (↑k2:Int)).bind fun x22 =>
 (p1 x22).bind fun x30 =>
 if x30=true then
 some (.inl ())
 else
 esc (some false)) ()) fun _ =>
 some true
def wCJ (p0:Int):Option (Bool) :=
 (wEK p0 1 999).bind fun x1 =>
 some x1
def wBZ (p0:Int):Option (Bool) :=
 (wEK p0 0 360000).bind fun x1 =>
 some x1
def wCK (p0:List Int):Option (Bool) :=
 (wBY p0 wBZ).bind fun x2 =>
 some x2
def wDp (p0:List Int):Option (Bool) :=
 jn (wEh 0 (↑p0.length:Int) (fun k20 l17 =>
 (idx p0 (↑k20:Int)).bind fun x41 =>
 if (wEJ l17 x41 false)=true then
 esc (some true)
 else
 some (.inl (wFf l17 x41 true))) ([]:List (Int × Bool))) fun y68 =>
 some false
def wCO (p0:wAF):Option (Int) :=
 (wEK p0.Laps 1 20).bind fun x10 =>
 if x10=true then
 if 60 < (↑p0.Bibs.length:Int) then
 some 2
 else
 if (↑p0.Times.length:Int)=(↑p0.Bibs.length:Int) then
 (wCs p0.Times (fun x=>wCI x p0)).bind fun x33 =>
 if x33=true then
 (wBY p0.Bibs wCJ).bind fun x48 =>
 if x48=true then
 (wCs p0.Times wCK).bind fun x64 =>
 if x64=true then
 (wDp p0.Bibs).bind fun x79 =>
 if x79=true then
 some 5
 else
 jn (wEh 0 (↑p0.Times.length:Int) (fun k97 _ =>
 (idx p0.Times (↑k97:Int)).bind fun x116 =>
 jn (wEh 1 (↑x116.length:Int) (fun k132 _ =>
 (idx x116 (1 + ↑k132:Int)).bind fun x155 =>
 (idx x116 (w64 ((1 + ↑k132:Int) - 1))).bind fun x163 =>
 if x155 <= x163 then
 esc (esc (some 4))
 else
 some (.inl ())) ()) fun _ =>
 some (.inl ())) ()) fun _ =>
 some 0
 else
 some 3
 else
 some 3
 else
 some 2
 else
 some 2
 else
 some 2
def wCt (p0:List Int) (p1:Int):Option ((List Int)) :=
 if p1 < 0 then
 none
 else
 if 0 < (w64 (p1 - 0)) then
 (appZ 8 (w64 (p1 - 0)) (0:Int)).bind fun x6 =>
 some ([]:List Int)
 else
 some []
def wCV (p0:List (List Int)):Option ((List Int)) :=
 (wCE 0 (↑p0.length:Int) (fun k7 x6 =>
 (idx p0 (↑k7:Int)).bind fun x29 =>
 if (w64 (x6 + (↑x29.length:Int))) < 0 then
 none
 else
 some (w64 (x6 + (↑x29.length:Int)))) 0).bind fun y12 =>
 (wCt [] y12).bind fun x59 =>
 (wCE 0 (↑p0.length:Int) (fun k86 l83 =>
 (idx p0 (↑k86:Int)).bind fun x107 =>
 (app 8 l83 x107).bind fun x122 =>
 some x122) x59).bind fun y91 =>
 some y91
def wDY (p0:List Int):Option (List Int):=wOs p0
def wCx (p0:List Int):Option (List Int):=wIr p0
def wBR {S E:Type} (f:S->Int->Option (S ⊕ E)) (s0:S) (p1:List Int):Option (S ⊕ E) :=
 jn (wEh 0 (↑p1.length:Int) (fun k12 s10 =>
  (idx p1 (↑k12:Int)).bind fun x33 =>
  (f s10 x33).bind fun yr41 =>
  match yr41 with
  | .inl s51 =>
   some (.inl s51)
  | .inr s51 =>
   esc (some (.inr s51))) s0) fun y65 =>
 some (.inl y65)
def wDK (p0:List Int):Option (Unit) :=
 some ()
def wCy (p0:wAF):Option ((List Int)) :=
 (wCV p0.Times).bind fun x5 =>
 (wDY x5).bind fun x18 =>
 (wCx x18).bind fun x29 =>
 (wDK x29).bind fun _ =>
 some x29
def wBa (p0:wAL) (p1:Int) (p2:Int) (p3:Int):Option (Int) :=
 (wCE 0 (↑p0.done.length:Int) (fun k7 x6 =>
 ((idx p0.done (↑k7:Int)).bind fun x35 =>
 (idx p0.out (↑k7:Int)).bind fun x46 =>
 if x46=true then
 some x6
 else
 if (w64 (p2 + 2)) <= x35 then
 (idx p0.Race.Times (↑k7:Int)).bind fun x60 =>
 (idx x60 (w64 (x35 - 1))).bind fun x73 =>
 if x73=p3 then
 if x6 < 0 then
 some (↑k7:Int)
 else
 (idx p0.Race.Bibs (↑k7:Int)).bind fun x96 =>
 (idx p0.Race.Bibs x6).bind fun x104 =>
 if x96 < x104 then
 some (↑k7:Int)
 else
 some x6
 else
 some x6
 else
 some x6).bind fun x31 =>
 some x31) (-1)).bind fun y12 =>
 some y12
def wBb (p0:wAL) (p1:Int):Option ((List Int) × wAL) :=
 (wCE 0 (↑p0.Race.Times.length:Int) (fun k10 l9 =>
 (idx p0.Race.Times (↑k10:Int)).bind fun x33 =>
 (chk (↑k10:Int) l9.length).bind fun _ =>
 (chk (↑k10:Int) p0.out.length).bind fun _ =>
 if (gd p0.out k10)=true then
 some l9
 else
 if (gd l9 k10) < (↑x33.length:Int) then
 (idx x33 (gd l9 k10)).bind fun x62 =>
 if x62=p1 then
 some (nG l9 k10 (w64 ((gd l9 k10) + 1)))
 else
 some l9
 else
 some l9) p0.done).bind fun y15 =>
 (wCE 0 (↑y15.length:Int) (fun k121 l117 =>
 (chk (↑k121:Int) y15.length).bind fun _ =>
 (chk (↑k121:Int) p0.out.length).bind fun _ =>
 if (gd p0.out k121)=true then
 some l117
 else
 (wBa (⟨p0.Race,y15,p0.out⟩:wAL) (↑k121:Int) (gd y15 k121) p1).bind fun x193 =>
 if 0 <= x193 then
 (app 8 l117 [(↑k121:Int)]).bind fun x222 =>
 some x222
 else
 some l117) []).bind fun y126 =>
 some (y126,(⟨p0.Race,y15,p0.out⟩:wAL))
noncomputable def wBG (p0:List wAG) (p1:((wAG × wAG)->Option Int)):Option (List wAG):=wLe p1 p0
def wDl (p0:Int):Option (Bool) :=
 some (decide (¬ (p0=p0)))
def wAy (p0:Int) (p1:Int):Option (Int) :=
 (wDl p0).bind fun x1 =>
 (wDl p1).bind fun x11 =>
 if x1=true then
 if x11=true then
 some 0
 else
 some (-1)
 else
 if x11=true then
 some 1
 else
 if p0 < p1 then
 some (-1)
 else
 if p1 < p0 then
 some 1
 else
 some 0
def wDZ (p0:List Int):Option (Int) :=
 jn (wEh 0 (↑p0.length:Int) (fun k2 _ =>
 (idx p0 (↑k2:Int)).bind fun x22 =>
 if x22=0 then
 some (.inl ())
 else
 esc (some x22)) ()) fun _ =>
 some 0
def wBW (p0:wAG) (p1:wAG):Option (Int) :=
 (wAy p0.Time p1.Time).bind fun x11 =>
 (wAy p0.Bib p1.Bib).bind fun x21 =>
 (wDZ [x11,x21]).bind fun x41 =>
 some x41
def wDh (p0:wAF):Option (wAL × (List wAG)) :=
 ((mkz 8 (↑p0.Bibs.length:Int) (0:Int)).bind fun x18 =>
 (mkz 1 (↑p0.Bibs.length:Int) false).bind fun x26 =>
 some (x18,x26)).bind fun (l9,l12) =>
 (wCy p0).bind fun x523 =>
 (wBR (S:=(List wAG) × Int × (List Int) × (List (List Int)) × (List Int) × (List Bool)) (E:=Empty) (fun (l1084,x1088,l1089,l1092,l1095,l1098) x1127 =>
  (wBb (⟨(⟨x1088,l1089,l1092⟩:wAF),l1095,l1098⟩:wAL) x1127).bind fun (x1153,x1154) =>
  (wCE 0 (↑x1153.length:Int) (fun k1194 l1191 =>
   (chk (↑k1194:Int) x1153.length).bind fun _ =>
   (idx x1154.Race.Bibs (gd x1153 k1194)).bind fun x1225 =>
   (chk (gd x1153 k1194) x1154.done.length).bind fun _ =>
   (wBa x1154 (gd x1153 k1194) (gd x1154.done (gd x1153 k1194).toNat) x1127).bind fun x1267 =>
   (idx x1154.Race.Bibs x1267).bind fun x1289 =>
   (app 32 l1191 [(⟨x1225,(gd x1154.done (gd x1153 k1194).toNat),x1127,x1289⟩:wAG)]).bind fun x1302 =>
   some x1302) l1084).bind fun y1199 =>
  (wCE 0 (↑x1153.length:Int) (fun k1341 l1340 =>
   (chk (↑k1341:Int) x1153.length).bind fun _ =>
   (chk (gd x1153 k1341) l1340.length).bind fun _ =>
   some (nG l1340 (gd x1153 k1341).toNat true)) x1154.out).bind fun y1346 =>
  some (.inl (y1199,x1154.Race.Laps,x1154.Race.Bibs,x1154.Race.Times,x1154.done,y1346))) ([],p0.Laps,p0.Bibs,p0.Times,l9,l12) x523).bind fun rr1121 =>
 match rr1121 with
 | .inl (y1419,y1420,y1421,y1422,y1423,y1424) =>
  (wBG y1419 (fun x=>wBW x.1 x.2)).bind fun x1441 =>
  some ((⟨(⟨y1420,y1421,y1422⟩:wAF),y1423,y1424⟩:wAL),x1441)
 | .inr e1435 =>
  e1435.elim
def wCA (p0:wAF):Option ((List wAG) × Int) :=
 (wCO p0).bind fun x5 =>
 if x5=0 then
 (wDh p0).bind fun (x19,x20) =>
 some (x20,0)
 else
 some ([],x5)
def wCW (p0:wAF):Option ((List Int) × Int) :=
 (wCO p0).bind fun x5 =>
 if x5=0 then
 (wDh p0).bind fun (x19,x20) =>
 some (x19.done,0)
 else
 some ([],x5)
def wCo (p0:wAH):Option (Int) :=
 (wCE 0 (↑p0.Legs.length:Int) (fun k18 x17 =>
 (idx p0.Legs (↑k18:Int)).bind fun x40 =>
 (wCE 0 (↑x40.Bouts.length:Int) (fun k69 x68 =>
 (idx x40.Bouts (↑k69:Int)).bind fun x94 =>
 (wCr x94).bind fun (x107,x108) =>
 if x107=(⟨0,0,0⟩:wAa) then
 some x68
 else
 some (w64 (x68 + x107.Unused))) x17).bind fun y74 =>
 some y74) 0).bind fun y23 =>
 some y23
noncomputable def wAe (p0:List wAB) (p1:((wAB × wAB)->Option Int)):Option (List wAB):=wLe p1 p0
def wBm (p0:wAB) (p1:wAB):Option (Int) :=
 (wAy p0.Time p1.Time).bind fun x11 =>
 (wAy p0.Bib p1.Bib).bind fun x21 =>
 (wDZ [x11,x21]).bind fun x41 =>
 some x41
def wBn (p0:wAB) (p1:wAB) (p2:List (Int × Int)):Option (Int) :=
 (wAy (wEJ p2 p1.Bib 0) (wEJ p2 p0.Bib 0)).bind fun x11 =>
 (wAy p0.Bib p1.Bib).bind fun x21 =>
 (wDZ [x11,x21]).bind fun x41 =>
 some x41
def wCB (p0:wAD):Option ((List wAB) × Int) :=
 (wDJ p0).bind fun (x5,x6) =>
 match x5 with
 | none =>
  if x6=0 then
   none
  else
   some ([],x6)
 | some x24 =>
  if x6=0 then
   (wCN x24).bind fun x46 =>
   (wCA x46).bind fun (x83,x84) =>
   (wCW x46).bind fun (x99,x100) =>
   (wCE 0 (↑x83.length:Int) (fun k144 l141 =>
    (chk (↑k144:Int) x83.length).bind fun _ =>
    some (wFf l141 ((gd x83 k144).Bib) true)) ([]:List (Int × Bool))).bind fun y149 =>
   (wCE 0 (↑p0.Teams.length:Int) (fun k258 (l247,l250,l254) =>
    (idx p0.Teams (↑k258:Int)).bind fun x293 =>
    (chk (↑k258:Int) x99.length).bind fun _ =>
    if (wEJ y149 x293.Bib false)=true then
     (app 24 l254 [(⟨x293.Bib,0,0⟩:wAB)]).bind fun x346 =>
     some ((wFf l247 x293.Bib (gd x99 k258)),l250,x346)
    else
     (idx x24.after (↑k258:Int)).bind fun x364 =>
     if (↑x364.length:Int) < x46.Laps then
      (app 24 l254 [(⟨x293.Bib,0,0⟩:wAB)]).bind fun x390 =>
      some ((wFf l247 x293.Bib (gd x99 k258)),l250,x390)
     else
      (idx x364 (w64 (x46.Laps - 1))).bind fun x434 =>
      (wCo x293).bind fun x441 =>
      (app 24 l250 [(⟨x293.Bib,0,w64 (x434 + (w64 (x441 * p0.Rules.Unused)))⟩:wAB)]).bind fun x456 =>
      some ((wFf l247 x293.Bib (gd x99 k258)),x456,l254)) (([]:List (Int × Int)),[],[])).bind fun (y263,y264,y265) =>
   (wAe y264 (fun x=>wBm x.1 x.2)).bind fun x508 =>
   (wAe y265 (fun x=>wBn x.1 x.2 y263)).bind fun x532 =>
   (wCE 0 (↑x508.length:Int) (fun k550 l549 =>
    (chk (↑k550:Int) l549.length).bind fun _ =>
    if 0 < (↑k550:Int) then
     (chk (↑k550:Int) (nG l549 k550 (⟨(gd l549 k550).Bib,(↑(k550 + 1):Int),(gd l549 k550).Time⟩:wAB)).length).bind fun _ =>
     (chk (w64 ((↑k550:Int) - 1)) (nG l549 k550 (⟨(gd l549 k550).Bib,(↑(k550 + 1):Int),(gd l549 k550).Time⟩:wAB)).length).bind fun _ =>
     if ((gd (nG l549 k550 (⟨(gd l549 k550).Bib,(↑(k550 + 1):Int),(gd l549 k550).Time⟩:wAB)) k550).Time)=((gd (nG l549 k550 (⟨(gd l549 k550).Bib,(↑(k550 + 1):Int),(gd l549 k550).Time⟩:wAB)) (w64 ((↑k550:Int) - 1)).toNat).Time) then
      some (nG (nG l549 k550 (⟨(gd l549 k550).Bib,(↑(k550 + 1):Int),(gd l549 k550).Time⟩:wAB)) k550 (⟨(gd (nG l549 k550 (⟨(gd l549 k550).Bib,(↑(k550 + 1):Int),(gd l549 k550).Time⟩:wAB)) k550).Bib,(gd (nG l549 k550 (⟨(gd l549 k550).Bib,(↑(k550 + 1):Int),(gd l549 k550).Time⟩:wAB)) (w64 ((↑k550:Int) - 1)).toNat).Place,(gd (nG l549 k550 (⟨(gd l549 k550).Bib,(↑(k550 + 1):Int),(gd l549 k550).Time⟩:wAB)) k550).Time⟩:wAB))
     else
      some (nG l549 k550 (⟨(gd l549 k550).Bib,(↑(k550 + 1):Int),(gd l549 k550).Time⟩:wAB))
    else
     some (nG l549 k550 (⟨(gd l549 k550).Bib,(↑(k550 + 1):Int),(gd l549 k550).Time⟩:wAB))) x508).bind fun y555 =>
   (app 24 y555 x532).bind fun x615 =>
   some (x615,0)
  else
   some ([],x6)
def wDL (p0:wAD):Option ((List (List Int)) × Int) :=
 (wDI p0).bind fun x5 =>
 if x5=0 then
 (mkz 24 (↑p0.Teams.length:Int) ([]:List Int)).bind fun x17 =>
 (wCE 0 (↑p0.Teams.length:Int) (fun k39 l37 =>
 (idx p0.Teams (↑k39:Int)).bind fun x61 =>
 (wCE 0 (↑x61.Legs.length:Int) (fun k104 (a101,l102) =>
 (idx x61.Legs (↑k104:Int)).bind fun x133 =>
 ((idx x61.Classes x133.Skier).bind fun x162 =>
 (idx p0.Rules.Classes (↑k104:Int)).bind fun x170 =>
 if x162=x170 then
 (chk x133.Skier 8).bind fun _ =>
 some (decide (p0.Rules.Each <= (a101.get x133.Skier.toNat)))
 else
 some true).bind fun b156 =>
 if b156=true then
 (chk (↑k39:Int) l102.length).bind fun _ =>
 (app 8 (gd l102 k39) [(↑k104:Int)]).bind fun x223 =>
 (chk x133.Skier 8).bind fun _ =>
 some ((a101.set x133.Skier.toNat (w64 ((a101.get x133.Skier.toNat) + 1))),(nG l102 k39 x223))
 else
 (chk x133.Skier 8).bind fun _ =>
 some ((a101.set x133.Skier.toNat (w64 ((a101.get x133.Skier.toNat) + 1))),l102)) ((Arr.fill 8 0),l37)).bind fun (y109,y110) =>
 some y110) x17).bind fun y44 =>
 some (y44,0)
 else
 some ([],x5)
def wBD (p0:List Int) (p1:List Int):Option (Bool) :=
 if (↑p0.length:Int)=(↑p1.length:Int) then
 jn (wEh 0 (↑p0.length:Int) (fun k4 _ =>
 (idx p0 (↑k4:Int)).bind fun x26 =>
 (idx p1 (↑k4:Int)).bind fun x34 =>
 if x26=x34 then
 some (.inl ())
 else
 esc (some false)) ()) fun _ =>
 some true
 else
 some false
def wBB (p0:List (List Int)) (p1:List (List Int)):Option (Bool) :=
 if (↑p0.length:Int)=(↑p1.length:Int) then
 jn (wEh 0 (↑p0.length:Int) (fun k4 _ =>
 (idx p0 (↑k4:Int)).bind fun x26 =>
 (idx p1 (↑k4:Int)).bind fun x39 =>
 (wBD x26 x39).bind fun x52 =>
 if x52=true then
 some (.inl ())
 else
 esc (some false)) ()) fun _ =>
 some true
 else
 some false
def wCp (p0:List wAB) (p1:List wAB):Option (Bool) :=
 if (↑p0.length:Int)=(↑p1.length:Int) then
 jn (wEh 0 (↑p0.length:Int) (fun k4 _ =>
 (idx p0 (↑k4:Int)).bind fun x26 =>
 (idx p1 (↑k4:Int)).bind fun x34 =>
 if x26=x34 then
 some (.inl ())
 else
 esc (some false)) ()) fun _ =>
 some true
 else
 some false
def wDE :Option (wCF) :=
 some (⟨[0,1,0],[[2300,9999],[2600,2400],[2250,9999]]⟩:wCF)
def wDF (p0:List Int) (p1:wAE):Option (Bool) :=
 some (decide ((↑p0.length:Int)=(↑p1.Classes.length:Int)))
def wCj (p0:List Int) (p1:((List Int)->Option Bool)):Option (Bool) :=
 (p1 p0).bind fun x1 =>
 some (!x1)
def wCu (p0:List (List Int)) (p1:((List Int)->Option Bool)):Option (Int) :=
 jn (wEh 0 (↑p0.length:Int) (fun k2 _ =>
 (idx p0 (↑k2:Int)).bind fun x22 =>
 (p1 x22).bind fun x35 =>
 if x35=true then
 esc (some (↑k2:Int))
 else
 some (.inl ())) ()) fun _ =>
 some (-1)
def wCX (p0:List (List Int)) (p1:((List Int)->Option Bool)):Option (Bool) :=
 (wCu p0 p1).bind fun x1 =>
 some (decide (0 <= x1))
def wDj (p0:List (List Int)) (p1:((List Int)->Option Bool)):Option (Bool) :=
 (wCX p0 (fun x=>wCj x p1)).bind fun x13 =>
 some (!x13)
def wCk (p0:Int):Option (Bool) :=
 (wBx p0 0 100000).bind fun x1 =>
 some x1
def wDG (p0:List Int):Option (Bool) :=
 (wBg p0 wCk).bind fun x2 =>
 some x2
def wDa (p0:wAE) (p1:wCF):Option (Int) :=
 (wBw p0).bind fun x15 =>
 if x15=0 then
 (wBx (↑p1.Classes.length:Int) 1 8).bind fun x27 =>
 if x27=true then
 if (↑p1.Times.length:Int)=(↑p1.Classes.length:Int) then
 (wDj p1.Times (fun x=>wDF x p0)).bind fun x49 =>
 if x49=true then
 (wBz p1.Classes).bind fun x65 =>
 if x65=true then
 (wDj p1.Times wDG).bind fun x80 =>
 if x80=true then
 some 0
 else
 some 3
 else
 some 3
 else
 some 2
 else
 some 2
 else
 some 2
 else
 some x15
def wDb (p0:wAt) (p1:Int) (p2:Int):Option (Bool) :=
 (idx p0.Squad.Classes p1).bind fun x7 =>
 (idx p0.rules.Classes p2).bind fun x14 =>
 some (decide (x7=x14))
def wFI (p0:List Int):Option (Int) :=
 (wCE 0 (↑p0.length:Int) (fun k7 x6 =>
 (idx p0 (↑k7:Int)).bind fun x28 =>
 some (w64 (x6 + x28))) 0).bind fun y12 =>
 some y12
def wEL (p0:wAt) (p1:List Int):Option (Int × Bool) :=
 jn (wEh 0 (↑p1.length:Int) (fun k31 (a26,l27) =>
 (idx p1 (↑k31:Int)).bind fun x56 =>
 (chk x56 8).bind fun _ =>
 (wDb p0 x56 (↑k31:Int)).bind fun x76 =>
 if x76=true then
 if p0.rules.Each < ((a26.set x56.toNat (w64 ((a26.get x56.toNat) + 1))).get x56.toNat) then
 esc (some (0,false))
 else
 (idx p0.Squad.Times x56).bind fun x95 =>
 (idx x95 (↑k31:Int)).bind fun x108 =>
 (app 8 l27 [x108]).bind fun x120 =>
 some (.inl ((a26.set x56.toNat (w64 ((a26.get x56.toNat) + 1))),x120))
 else
 esc (some (0,false))) ((Arr.fill 8 0),[])) fun (y140,y141) =>
 (wFI y141).bind fun x160 =>
 some (x160,true)
def wDq (rec_:(List Int)->wAt->(List Int)->Int->Int->Unit->Option ((List Int) × Int)) (p0:List Int) (p1:wAt) (p2:List Int) (p3:Int) (p4:Int) (p5:Unit):Option ((List Int) × Int) :=
 if (↑p0.length:Int)=(↑p1.rules.Classes.length:Int) then
 (wEL p1 p0).bind fun (x6,x7) =>
 if x7=true then
 if p2=[] then
 (wBT p0).bind fun x23 =>
 (wQI x23).bind fun x36 =>
 some (x23,x6)
 else
 if x6 < p3 then
 (wBT p0).bind fun x49 =>
 (wQI x49).bind fun x62 =>
 some (x49,x6)
 else
 some (p2,p3)
 else
 some (p2,p3)
 else
 (wCE 0 (↑p1.Squad.Classes.length:Int) (fun k92 (l88,x91) =>
 if (↑k92:Int)=p4 then
 some (l88,x91)
 else
 (wDb p1 (↑k92:Int) (↑p0.length:Int)).bind fun x129 =>
 if x129=true then
 (wBT p0).bind fun x145 =>
 (app 8 x145 [(↑k92:Int)]).bind fun x163 =>
 (rec_ x163 p1 l88 x91 p4 ()).bind fun (x193,x194) =>
 some (x193,x194)
 else
 some (l88,x91)) (p2,p3)).bind fun (y97,y98) =>
 some (y97,y98)
def wDc:Nat->(List Int)->wAt->(List Int)->Int->Int->Unit->Option ((List Int) × Int)
 | 0=>fun _ _ _ _ _ _=>none
 | n_ + 1=>wDq (wDc n_)
def wDR (p0:wAt) (p1:Int):Option ((List Int) × Int) :=
 (wDc 1000 [] p0 ([]:List Int) 0 p1 ()).bind fun (x57,x58) =>
 some (x57,x58)
def wGZ (p0:wAE) (p1:wCF):Option ((List Int) × Int × Int) :=
 (wDa p0 p1).bind fun x9 =>
 if x9=0 then
 (wDR (⟨p1,p0⟩:wAt) (-1)).bind fun (x24,x25) =>
 if x24=[] then
 some ([],0,6)
 else
 some (x24,x25,0)
 else
 some ([],0,x9)
def wCh (p0:Int):Option (Bool) :=
 (wBx p0 (-1000000) 1000000).bind fun x1 =>
 some x1
def wDx (p0:Int):Option (Bool) :=
 some (decide (0 <= p0))
def wFg (p0:wAE) (p1:wCF) (p2:List Int) (p3:List Int):Option (Int × Int) :=
 (wDa p0 p1).bind fun x9 =>
 if x9=0 then
 if (↑p2.length:Int)=(↑p0.Classes.length:Int) then
 if (↑p3.length:Int)=(↑p1.Classes.length:Int) then
 (wBg p2 wCh).bind fun x27 =>
 if x27=true then
 (wBg p3 wCh).bind fun x42 =>
 if x42=true then
 (wBg p3 wDx).bind fun x56 =>
 if x56=true then
 jn (wEh 0 (↑p3.length:Int) (fun k82 _ =>
 (idx p3 (↑k82:Int)).bind fun x106 =>
 jn (wEh 0 (↑p2.length:Int) (fun k116 _ =>
 (idx p2 (↑k116:Int)).bind fun x145 =>
 (wDb (⟨p1,p0⟩:wAt) (↑k82:Int) (↑k116:Int)).bind fun x175 =>
 if x175=true then
 (idx p1.Times (↑k82:Int)).bind fun x187 =>
 (idx x187 (↑k116:Int)).bind fun x200 =>
 if x200 < (w64 (x145 - x106)) then
 esc (esc (some (0,8)))
 else
 some (.inl ())
 else
 some (.inl ())) ()) fun _ =>
 some (.inl ())) ()) fun _ =>
 (wFI p2).bind fun x260 =>
 (wFI p3).bind fun x273 =>
 some (w64 (x260 - (w64 (p0.Each * x273))),0)
 else
 some (0,8)
 else
 some (0,3)
 else
 some (0,3)
 else
 some (0,2)
 else
 some (0,2)
 else
 some (0,x9)
def wGa (p0:wAE) (p1:wCF) (p2:Int):Option (Int × Int) :=
 (wDa p0 p1).bind fun x9 =>
 if x9=0 then
 (wBx p2 0 (w64 ((↑p1.Classes.length:Int) - 1))).bind fun x21 =>
 if x21=true then
 (wDR (⟨p1,p0⟩:wAt) (-1)).bind fun (x46,x47) =>
 (wDR (⟨p1,p0⟩:wAt) p2).bind fun (x64,x65) =>
 if x64=[] then
 some (0,6)
 else
 some (w64 (x65 - x47),0)
 else
 some (0,1)
 else
 some (0,x9)
def wCY (p0:wAS) (p1:(wAS->Option Bool)):Option (Bool) :=
 (p1 p0).bind fun x5 =>
 some (!x5)
def wCC (p0:List wAS) (p1:(wAS->Option Bool)):Option (Int) :=
 jn (wEh 0 (↑p0.length:Int) (fun k2 _ =>
 (idx p0 (↑k2:Int)).bind fun x22 =>
 (p1 x22).bind fun x30 =>
 if x30=true then
 esc (some (↑k2:Int))
 else
 some (.inl ())) ()) fun _ =>
 some (-1)
def wBc (p0:List wAS) (p1:(wAS->Option Bool)):Option (Bool) :=
 (wCC p0 p1).bind fun x1 =>
 some (decide (0 <= x1))
def wEH (p0:List wAS) (p1:(wAS->Option Bool)):Option (Bool) :=
 (wBc p0 (fun x=>wCY x p1)).bind fun x13 =>
 some (!x13)
def wDm (p0:wAS):Option (Bool) :=
 some (decide (p0.Lo <= p0.Hi))
def wFJ (p0:List wAS):Option ((List wAS) × Int) :=
 if 40 < (↑p0.length:Int) then
 some ([],2)
 else
 (wEH p0 wDm).bind fun x7 =>
 if x7=true then
 (wCE 0 (↑p0.length:Int) (fun k36 l32 =>
 (idx p0 (↑k36:Int)).bind fun x60 =>
 (wCE 0 (↑p0.length:Int) (fun k93 (x91,x92) =>
 (idx p0 (↑k93:Int)).bind fun x122 =>
 if (↑k93:Int)=(↑k36:Int) then
 some (x91,x92)
 else
 if x122.Hi < x60.Lo then
 if x122.Lo < x60.Hi then
 some (w64 (x91 + 1),w64 (x92 + 1))
 else
 some (w64 (x91 + 1),x92)
 else
 if x122.Lo < x60.Hi then
 some (x91,w64 (x92 + 1))
 else
 some (x91,x92)) (1,1)).bind fun (y98,y99) =>
 (app 16 l32 [(⟨y98,y99⟩:wAS)]).bind fun x193 =>
 some x193) []).bind fun y41 =>
 some (y41,0)
 else
 some ([],3)
def wDS (p0:List wAS) (p1:List wAS):Option (Bool) :=
 if (↑p0.length:Int)=(↑p1.length:Int) then
 jn (wEh 0 (↑p0.length:Int) (fun k4 _ =>
 (idx p0 (↑k4:Int)).bind fun x26 =>
 (idx p1 (↑k4:Int)).bind fun x34 =>
 if x26=x34 then
 some (.inl ())
 else
 esc (some false)) ()) fun _ =>
 some true
 else
 some false
def wBu :Option (Bool) :=
 (wDD).bind fun x1 =>
 (idx x1 0).bind fun x21 =>
 (wCr x21).bind fun (x33,x34) =>
 (wDD).bind fun x51 =>
 (idx x51 3).bind fun x71 =>
 (wCr x71).bind fun (x83,x84) =>
 (wCT).bind fun x101 =>
 (wGG x101).bind fun (x131,x132) =>
 (wCT).bind fun x147 =>
 (wCB x147).bind fun (x177,x178) =>
 (wCT).bind fun x191 =>
 (wDL x191).bind fun (x221,x222) =>
 (if x34=0 then
 if x84=0 then
 if x132=0 then
 if x178=0 then
 if x222=0 then
 if x33=(⟨1,0,0⟩:wAa) then
 if x83=(⟨0,1,3⟩:wAa) then
 (wBB x131 [[2200,4600],[2150,4800]]).bind fun x310 =>
 if x310=true then
 (wCp x177 [(⟨7,1,4600⟩:wAB),(⟨3,2,8400⟩:wAB)]).bind fun x338 =>
 if x338=true then
 (wBB x221 [[],[]]).bind fun x370 =>
 some (!x370)
 else
 some true
 else
 some true
 else
 some true
 else
 some true
 else
 some true
 else
 some true
 else
 some true
 else
 some true
 else
 some true).bind fun b242 =>
 if b242=true then
 some false
 else
 (wCT).bind fun x408 =>
 (wDE).bind fun x435 =>
 (wGZ x408.Rules x435).bind fun (x473,x474,x475) =>
 ((wDE).bind fun x493 =>
 (wFg x408.Rules x493 [2250,2400] [0,0,0]).bind fun (x554,x555) =>
 some (x555,x554)).bind fun (x488,x489) =>
 (wDE).bind fun x976 =>
 (wGa x408.Rules x976 2).bind fun (x1011,x1012) =>
 (wFJ [(⟨100,200⟩:wAS),(⟨150,300⟩:wAS),(⟨250,260⟩:wAS)]).bind fun (x1032,x1033) =>
 if x475=0 then
 if x488=0 then
 if x1012=0 then
 if x1033=0 then
 (wBD x473 [2,1]).bind fun x1081 =>
 if x1081=true then
 if x474=4650 then
 if x489=4650 then
 if x1011=50 then
 (wDS x1032 [(⟨1,2⟩:wAS),(⟨1,3⟩:wAS),(⟨2,3⟩:wAS)]).bind fun x1115 =>
 some x1115
 else
 some false
 else
 some false
 else
 some false
 else
 some false
 else
 some false
 else
 some false
 else
 some false
 else
 some false
def wBU (p0:List Int):Option ((List Int)) :=
 (app 8 ([]:List Int) p0).bind fun x4 =>
 some x4
def wBS (p0:wAE):Option (wAE) :=
 (wBU p0.Classes).bind fun x9 =>
 some (⟨x9,p0.Each,p0.Laps,p0.Spare,p0.Loop,p0.Unused⟩:wAE)
def wCZ (p0:List Bool):Option ((List Bool)) :=
 (app 1 ([]:List Bool) p0).bind fun x4 =>
 some x4
def wBq (p0:List (List Bool)):Option ((List (List Bool))) :=
 (wCE 0 (↑p0.length:Int) (fun k22 l17 =>
 (idx p0 (↑k22:Int)).bind fun x46 =>
 (wCZ x46).bind fun x59 =>
 (app 24 l17 [x59]).bind fun x83 =>
 some x83) []).bind fun y27 =>
 some y27
def wCe (p0:wAD):Option (wAD) :=
 ((wBS p0.Rules).bind fun x22 =>
 some (x22.Classes,x22.Each,x22.Laps,x22.Spare,x22.Loop,x22.Unused)).bind fun (l11,x14,x15,x16,x17,x18) =>
 (wCE 0 (↑p0.Teams.length:Int) (fun k130 l125 =>
 (idx p0.Teams (↑k130:Int)).bind fun x155 =>
 ((wBU x155.Classes).bind fun x187 =>
 some x187).bind fun l181 =>
 (wCE 0 (↑x155.Legs.length:Int) (fun k289 l284 =>
 (idx x155.Legs (↑k289:Int)).bind fun x318 =>
 (wBU x318.Loops).bind fun x344 =>
 (wBq x318.Bouts).bind fun x358 =>
 (app 56 l284 [(⟨x318.Skier,x344,x358⟩:wAN)]).bind fun x391 =>
 some x391) []).bind fun y294 =>
 (app 56 l125 [(⟨x155.Bib,l181,y294⟩:wAH)]).bind fun x454 =>
 some x454) []).bind fun y135 =>
 some (⟨(⟨l11,x14,x15,x16,x17,x18⟩:wAE),p0.Start,y135⟩:wAD)
def wDT (p0:wAD):Option (wAT) :=
 ((wBS p0.Rules).bind fun x22 =>
 some (x22.Classes,x22.Each,x22.Laps,x22.Spare,x22.Loop,x22.Unused)).bind fun (l11,x14,x15,x16,x17,x18) =>
 (wCe p0).bind fun x111 =>
 (wCE 0 (↑x111.Teams.length:Int) (fun k161 l156 =>
 (idx x111.Teams (↑k161:Int)).bind fun x186 =>
 (wCE 0 (↑x186.Legs.length:Int) (fun k237 l232 =>
 (idx x186.Legs (↑k237:Int)).bind fun x266 =>
 (app 56 l232 [(⟨x266.Skier,x266.Loops,x266.Bouts⟩:wCS)]).bind fun x295 =>
 some x295) []).bind fun y242 =>
 (app 56 l156 [(⟨x186.Bib,x186.Classes,y242⟩:wCH)]).bind fun x349 =>
 some x349) []).bind fun y166 =>
 some (⟨(⟨l11,x14,x15,x16,x17,x18⟩:wAu),p0.Start,y166⟩:wAT)
def wFK (p0:wAD):Option ((List wAG) × Int) :=
 (wDJ p0).bind fun (x5,x6) =>
 match x5 with
 | none =>
  if x6=0 then
   none
  else
   some ([],x6)
 | some x24 =>
  if x6=0 then
   (wCN x24).bind fun x46 =>
   (wCA x46).bind fun (x76,x77) =>
   some (x76,x77)
  else
   some ([],x6)
def wAd (p0:Int) (p1:Int) (p2:Int):Option (Bool) :=
 if p0 < p1 then
 some true
 else
 some (decide (p2 < p0))
def wCz (p0:List Int):Option (Bool) :=
 jn (wEh 0 (↑p0.length:Int) (fun k2 _ =>
 (idx p0 (↑k2:Int)).bind fun x20 =>
 (wAd x20 0 3).bind fun x28 =>
 if x28=true then
 esc (some true)
 else
 some (.inl ())) ()) fun _ =>
 some false
def wCD (p0:wAu):Option (Int) :=
 (wAd (↑p0.Classes.length:Int) 1 4).bind fun x5 =>
 if x5=true then
 some 2
 else
 (wCz p0.Classes).bind fun x19 =>
 if x19=true then
 some 3
 else
 (wAd p0.Each 1 4).bind fun x32 =>
 if x32=true then
 some 3
 else
 (wAd p0.Laps 1 5).bind fun x45 =>
 if x45=true then
 some 3
 else
 (wAd p0.Spare 0 600).bind fun x58 =>
 if x58=true then
 some 3
 else
 (wAd p0.Loop 0 600).bind fun x71 =>
 if x71=true then
 some 3
 else
 (wAd p0.Unused 0 6000).bind fun x84 =>
 if x84=true then
 some 3
 else
 some 0
def wBC (p0:List Bool):Option (wAq × Int) :=
 (wAd (↑p0.length:Int) 5 8).bind fun x5 =>
 if x5=true then
 some ((⟨0,0,0⟩:wAq),2)
 else
 jn (wEh 0 (↑p0.length:Int) (fun k27 x26 =>
 if x26=5 then
 esc (some ((⟨0,0,0⟩:wAq),8))
 else
 (idx p0 (↑k27:Int)).bind fun x56 =>
 if x56=true then
 some (.inl (w64 (x26 + 1)))
 else
 some (.inl x26)) 0) fun y74 =>
 if y74 < 5 then
 some ((⟨w64 ((↑p0.length:Int) - 5),w64 (5 - y74),w64 (8 - (↑p0.length:Int))⟩:wAq),0)
 else
 some ((⟨w64 ((↑p0.length:Int) - 5),w64 (5 - y74),0⟩:wAq),0)
def wBH (p0:wAT):Option (Int) :=
 (wCD p0.Rules).bind fun x5 =>
 if x5=0 then
 (wAd (↑p0.Teams.length:Int) 1 12).bind fun x17 =>
 if x17=true then
 some 2
 else
 iter (fun x33 =>
 if x33 < (↑p0.Teams.length:Int) then
 (idx p0.Teams x33).bind fun x48 =>
 (wAd (↑x48.Classes.length:Int) 1 8).bind fun x73 =>
 if x73=true then
 esc (some 2)
 else
 if (↑p0.Rules.Classes.length:Int) < (↑x48.Legs.length:Int) then
 esc (some 2)
 else
 iter (fun x98 =>
 if x98 < (↑x48.Legs.length:Int) then
 (idx x48.Legs x98).bind fun x115 =>
 if (↑x115.Loops.length:Int)=0 then
 if p0.Rules.Laps < (↑x115.Loops.length:Int) then
 esc (esc (some 2))
 else
 if (w64 (x98 + 1)) < (↑x48.Legs.length:Int) then
 if (↑x115.Loops.length:Int)=p0.Rules.Laps then
 if (↑x115.Bouts.length:Int)=0 then
 some (.inl (w64 (x98 + 1)))
 else
 esc (esc (some 2))
 else
 esc (esc (some 2))
 else
 if (↑x115.Bouts.length:Int)=0 then
 some (.inl (w64 (x98 + 1)))
 else
 esc (esc (some 2))
 else
 if p0.Rules.Laps < (↑x115.Loops.length:Int) then
 esc (esc (some 2))
 else
 if (w64 (x98 + 1)) < (↑x48.Legs.length:Int) then
 if (↑x115.Loops.length:Int)=p0.Rules.Laps then
 if (↑x115.Bouts.length:Int)=(w64 ((↑x115.Loops.length:Int) - 1)) then
 some (.inl (w64 (x98 + 1)))
 else
 esc (esc (some 2))
 else
 esc (esc (some 2))
 else
 if (↑x115.Bouts.length:Int)=(w64 ((↑x115.Loops.length:Int) - 1)) then
 some (.inl (w64 (x98 + 1)))
 else
 esc (esc (some 2))
 else
 esc (some (.inl (w64 (x33 + 1))))) big 0
 else
 esc ((wAd p0.Start 0 36000).bind fun x290 =>
 if x290=true then
 some 3
 else
 iter (fun x306 =>
 if x306 < (↑p0.Teams.length:Int) then
 (idx p0.Teams x306).bind fun x321 =>
 (wAd x321.Bib 1 999).bind fun x348 =>
 if x348=true then
 esc (some 3)
 else
 (wCz x321.Classes).bind fun x365 =>
 if x365=true then
 esc (some 3)
 else
 iter (fun x384 =>
 if x384 < (↑x321.Legs.length:Int) then
 iter (fun x404 =>
 (idx x321.Legs x384).bind fun x420 =>
 if x404 < (↑x420.Loops.length:Int) then
 (idx x420.Loops x404).bind fun x453 =>
 (wAd x453 1 9000).bind fun x460 =>
 if x460=true then
 esc (esc (esc (some 3)))
 else
 some (.inl (w64 (x404 + 1)))
 else
 esc (some (.inl (w64 (x384 + 1))))) big 0
 else
 esc (some (.inl (w64 (x306 + 1))))) big 0
 else
 esc (iter (fun x500 =>
 if x500 < (↑p0.Teams.length:Int) then
 iter (fun x518 =>
 (idx p0.Teams x500).bind fun x532 =>
 if x518 < (↑x532.Legs.length:Int) then
 (idx x532.Legs x518).bind fun x570 =>
 (wAd x570.Skier 0 (w64 ((↑x532.Classes.length:Int) - 1))).bind fun x597 =>
 if x597=true then
 esc (esc (some 1))
 else
 some (.inl (w64 (x518 + 1)))
 else
 esc (some (.inl (w64 (x500 + 1))))) big 0
 else
 esc (iter (fun x629 =>
 if x629 < (↑p0.Teams.length:Int) then
 iter (fun x647 =>
 (idx p0.Teams x629).bind fun x661 =>
 if x647 < (↑x661.Legs.length:Int) then
 iter (fun x689 =>
 (idx x661.Legs x647).bind fun x717 =>
 if x689 < (↑x717.Bouts.length:Int) then
 (idx x717.Bouts x689).bind fun x758 =>
 (wBC x758).bind fun (x770,x771) =>
 if x771=0 then
 some (.inl (w64 (x689 + 1)))
 else
 esc (esc (esc (some x771)))
 else
 esc (some (.inl (w64 (x647 + 1))))) big 0
 else
 esc (some (.inl (w64 (x629 + 1))))) big 0
 else
 esc (iter (fun x818 =>
 if x818 < (↑p0.Teams.length:Int) then
 jn (wEh 0 x818 (fun k834 _ =>
 (idx p0.Teams x818).bind fun x855 =>
 (idx p0.Teams (↑k834:Int)).bind fun x879 =>
 if x855.Bib=x879.Bib then
 esc (esc (some 5))
 else
 some (.inl ())) ()) fun _ =>
 some (.inl (w64 (x818 + 1)))
 else
 esc (some 0)) big 0)) big 0)) big 0)) big 0)) big 0
 else
 some x5
def wCf (p0:wAT) (p1:Int) (p2:Int) (p3:Int):Option (Int) :=
 (wCE 0 (p2 + 1) (fun k11 x10 =>
 (idx p0.Teams p1).bind fun x34 =>
 (idx x34.Legs (↑k11:Int)).bind fun x50 =>
 if (↑k11:Int)=p2 then
 (wCE 0 p3 (fun k80 x79 =>
 (idx x50.Loops (↑k80:Int)).bind fun x106 =>
 if 0 < (↑k80:Int) then
 (idx x50.Bouts (w64 ((↑k80:Int) - 1))).bind fun x116 =>
 (wBC x116).bind fun (x129,x130) =>
 some (w64 ((w64 ((w64 (x79 + x106)) + (w64 (x129.Spares * p0.Rules.Spare)))) + (w64 (x129.Loops * p0.Rules.Loop))))
 else
 some (w64 (x79 + x106))) x10).bind fun y85 =>
 some y85
 else
 (wCE 0 (↑x50.Loops.length:Int) (fun k175 x174 =>
 (idx x50.Loops (↑k175:Int)).bind fun x201 =>
 if 0 < (↑k175:Int) then
 (idx x50.Bouts (w64 ((↑k175:Int) - 1))).bind fun x211 =>
 (wBC x211).bind fun (x224,x225) =>
 some (w64 ((w64 ((w64 (x174 + x201)) + (w64 (x224.Spares * p0.Rules.Spare)))) + (w64 (x224.Loops * p0.Rules.Loop))))
 else
 some (w64 (x174 + x201))) x10).bind fun y180 =>
 some y180) p0.Start).bind fun y16 =>
 some y16
def wBd (p0:wAT):Option (wAn × Int) :=
 (wBH p0).bind fun x9 =>
 if x9=0 then
 iter (fun (l56,l60,x65) =>
 if x65 < (↑p0.Teams.length:Int) then
 iter (fun (l101,x105) =>
 (idx p0.Teams x65).bind fun x124 =>
 if x105 < (↑x124.Legs.length:Int) then
 iter (fun (l156,x159) =>
 (idx x124.Legs x105).bind fun x190 =>
 if x159 <= (↑x190.Loops.length:Int) then
 (wCf p0 x65 x105 x159).bind fun x211 =>
 (app 8 l156 [x211]).bind fun x226 =>
 some (.inl (x226,w64 (x159 + 1)))
 else
 esc (some (.inl (l156,w64 (x105 + 1))))) big (l101,1)
 else
 esc ((app 8 l56 [x124.Bib]).bind fun x269 =>
 (app 24 l60 [l101]).bind fun x291 =>
 some (.inl (x269,x291,w64 (x65 + 1))))) big ([],0)
 else
 esc (some ((⟨w64 ((↑p0.Rules.Classes.length:Int) * p0.Rules.Laps),l56,l60⟩:wAn),0))) big ([],[],0)
 else
 some ((⟨0,[],[]⟩:wAn),x9)
def wBK (p0:Int) (p1:Int) (p2:Int):Option (Bool) :=
 if p0 < p1 then
 some true
 else
 some (decide (p2 < p0))
def wCP (p0:List Int):Option (Bool) :=
 jn (wEh 0 (↑p0.length:Int) (fun k2 _ =>
 jn (wEh 0 (↑k2:Int) (fun k21 _ =>
 (idx p0 (↑k2:Int)).bind fun x42 =>
 (idx p0 (↑k21:Int)).bind fun x51 =>
 if x42=x51 then
 esc (esc (some true))
 else
 some (.inl ())) ()) fun _ =>
 some (.inl ())) ()) fun _ =>
 some false
def wBX (p0:wAn):Option (Int) :=
 (wBK p0.Laps 1 20).bind fun x5 =>
 if x5=true then
 some 2
 else
 if 60 < (↑p0.Bibs.length:Int) then
 some 2
 else
 if (↑p0.Times.length:Int)=(↑p0.Bibs.length:Int) then
 iter (fun x26 =>
 if x26 < (↑p0.Times.length:Int) then
 (idx p0.Times x26).bind fun x43 =>
 if p0.Laps < (↑x43.length:Int) then
 esc (some 2)
 else
 some (.inl (w64 (x26 + 1)))
 else
 esc (iter (fun x71 =>
 if x71 < (↑p0.Bibs.length:Int) then
 (idx p0.Bibs x71).bind fun x86 =>
 (wBK x86 1 999).bind fun x96 =>
 if x96=true then
 esc (some 3)
 else
 iter (fun x115 =>
 (idx p0.Times x71).bind fun x129 =>
 if x115 < (↑x129.length:Int) then
 (idx x129 x115).bind fun x157 =>
 (wBK x157 0 360000).bind fun x164 =>
 if x164=true then
 esc (esc (some 3))
 else
 some (.inl (w64 (x115 + 1)))
 else
 esc (some (.inl (w64 (x71 + 1))))) big 0
 else
 esc ((wCP p0.Bibs).bind fun x196 =>
 if x196=true then
 some 5
 else
 iter (fun x212 =>
 if x212 < (↑p0.Times.length:Int) then
 iter (fun x230 =>
 (idx p0.Times x212).bind fun x244 =>
 if x230 < (↑x244.length:Int) then
 (idx x244 x230).bind fun x275 =>
 (idx x244 (w64 (x230 - 1))).bind fun x291 =>
 if x275 <= x291 then
 esc (esc (some 4))
 else
 some (.inl (w64 (x230 + 1)))
 else
 esc (some (.inl (w64 (x212 + 1))))) big 1
 else
 esc (some 0)) big 0)) big 0)) big 0
 else
 some 2
def wAr (p0:List Int) (p1:Int) (p2:Int):Option (Int) :=
 (wCE 0 (↑p0.length:Int) (fun k7 x6 =>
 (idx p0 (↑k7:Int)).bind fun x29 =>
 if x29 <= p1 then
 if p2 < 0 then
 some (w64 (x6 + 1))
 else
 if x29 <= p2 then
 some (w64 (x6 + 1))
 else
 some x6
 else
 some x6) 0).bind fun y12 =>
 some y12
def wDA (p0:wAn):Option ((List wAf) × (List Int)) :=
 (mkz 8 (↑p0.Bibs.length:Int) (0:Int)).bind fun x5 =>
 iter (fun (l19,x20) =>
 if x20 < (↑l19.length:Int) then
 (chk x20 l19.length).bind fun _ =>
 some (.inl ((nG l19 x20.toNat (-1)),w64 (x20 + 1)))
 else
 esc (iter (fun (l66,l67,x71) =>
 iter (fun (x95,x96) =>
 if x96 < (↑p0.Times.length:Int) then
 iter (fun (x121,x122) =>
 (idx p0.Times x96).bind fun x140 =>
 if x122 < (↑x140.length:Int) then
 (idx x140 x122).bind fun x167 =>
 if x71 < x167 then
 if x121 < 0 then
 some (.inl (x167,w64 (x122 + 1)))
 else
 if x167 < x121 then
 some (.inl (x167,w64 (x122 + 1)))
 else
 some (.inl (x121,w64 (x122 + 1)))
 else
 some (.inl (x121,w64 (x122 + 1)))
 else
 esc (some (.inl (x121,w64 (x96 + 1))))) big (x95,0)
 else
 esc (if x95 < 0 then
 esc (some (l67,l66))
 else
 iter (fun (l221,x225) =>
 if x225 < (↑p0.Bibs.length:Int) then
 (chk x225 l66.length).bind fun _ =>
 if 0 <= (gd l66 x225.toNat) then
 some (.inl (l221,w64 (x225 + 1)))
 else
 (idx p0.Times x225).bind fun x257 =>
 (wAr x257 x95 (-1)).bind fun x273 =>
 iter (fun (x289,x290) =>
 if x290 < (↑p0.Bibs.length:Int) then
 ((idx p0.Times x290).bind fun x319 =>
 (chk x290 l66.length).bind fun _ =>
 (wAr x319 x95 (gd l66 x290.toNat)).bind fun x336 =>
 if (gd l66 x290.toNat) < 0 then
 if (w64 (x273 + 2)) <= x336 then
 (idx x319 (w64 (x336 - 1))).bind fun x374 =>
 if x374=x95 then
 if x289=0 then
 (idx p0.Bibs x290).bind fun x385 =>
 some x385
 else
 (idx p0.Bibs x290).bind fun x401 =>
 if x401 < x289 then
 some x401
 else
 some x289
 else
 some x289
 else
 some x289
 else
 some x289).bind fun x313 =>
 some (.inl (x313,w64 (x290 + 1)))
 else
 esc (if 0 < x289 then
 (idx p0.Bibs x225).bind fun x453 =>
 (app 32 l221 [(⟨x453,x273,x95,x289⟩:wAf)]).bind fun x471 =>
 some (.inl (x471,w64 (x225 + 1)))
 else
 some (.inl (l221,w64 (x225 + 1))))) big (0,0)
 else
 esc (iter (fun (l513,l514,l517) =>
 if 0 < (↑l517.length:Int) then
 (wCE 1 (↑l517.length:Int) (fun k545 x544 =>
 (chk (1 + ↑k545:Int) l517.length).bind fun _ =>
 (chk x544 l517.length).bind fun _ =>
 if ((gd l517 (1 + ↑k545:Int).toNat).Bib) < ((gd l517 x544.toNat).Bib) then
 some (1 + ↑k545:Int)
 else
 some x544) 0).bind fun y550 =>
 (chk y550 l517.length).bind fun _ =>
 (app 32 l514 [(gd l517 y550.toNat)]).bind fun x611 =>
 iter (fun (l625,x626) =>
 if x626 < (↑p0.Bibs.length:Int) then
 (idx p0.Bibs x626).bind fun x650 =>
 if x650=((gd l517 y550.toNat).Bib) then
 (chk x626 l625.length).bind fun _ =>
 some (.inl ((nG l625 x626.toNat x95),w64 (x626 + 1)))
 else
 some (.inl (l625,w64 (x626 + 1)))
 else
 esc ((cut l517 0 y550).bind fun x684 =>
 (cut l517 (w64 (y550 + 1)) (↑(l517.length):Int)).bind fun x693 =>
 (app 32 x684 x693).bind fun x709 =>
 some (.inl (l625,x611,x709)))) big (l513,0)
 else
 esc (some (.inl (l513,l514,x95)))) big (l66,l67,l221))) big ([],0))) big (-1,0)) big (l19,[],-1))) big (x5,0)
def wAv (p0:wAn):Option ((List wAf) × Int) :=
 (wBX p0).bind fun x5 =>
 if x5=0 then
 (wDA p0).bind fun (x19,x20) =>
 some (x19,0)
 else
 some ([],x5)
def wDd (p0:wAT):Option ((List wAf) × Int) :=
 (wBd p0).bind fun (x5,x6) =>
 if x6=0 then
 (wAv x5).bind fun (x45,x46) =>
 some (x45,x46)
 else
 some ([],x6)
def wBe (p0:wAT):Option ((List (List Int)) × Int) :=
 (wBH p0).bind fun x5 =>
 if x5=0 then
 iter (fun (l34,x39) =>
 if x39 < (↑p0.Teams.length:Int) then
 (idx p0.Teams x39).bind fun x58 =>
 iter (fun (l96,x100) =>
 if x100 < (↑x58.Legs.length:Int) then
 (wCE 0 x100 (fun k127 x126 =>
 (idx x58.Legs (↑k127:Int)).bind fun x154 =>
 (idx x58.Legs x100).bind fun x171 =>
 if x154.Skier=x171.Skier then
 some (w64 (x126 + 1))
 else
 some x126) 0).bind fun y132 =>
 if p0.Rules.Each <= y132 then
 (app 8 l96 [x100]).bind fun x216 =>
 some (.inl (x216,w64 (x100 + 1)))
 else
 (idx x58.Legs x100).bind fun x229 =>
 (idx x58.Classes x229.Skier).bind fun x246 =>
 (idx p0.Rules.Classes x100).bind fun x255 =>
 if x246=x255 then
 some (.inl (l96,w64 (x100 + 1)))
 else
 (app 8 l96 [x100]).bind fun x278 =>
 some (.inl (x278,w64 (x100 + 1)))
 else
 esc ((app 24 l34 [l96]).bind fun x305 =>
 some (.inl (x305,w64 (x39 + 1))))) big ([],0)
 else
 esc (some (l34,0))) big ([],0)
 else
 some ([],x5)
def wBE (p0:wAn):Option ((List Int) × Int) :=
 (wBX p0).bind fun x5 =>
 if x5=0 then
 (wDA p0).bind fun (x19,x20) =>
 (mkz 8 (↑p0.Bibs.length:Int) (0:Int)).bind fun x36 =>
 iter (fun (l50,x51) =>
 if x51 < (↑l50.length:Int) then
 (idx p0.Times x51).bind fun x71 =>
 (chk x51 x20.length).bind fun _ =>
 (wAr x71 360000 (gd x20 x51.toNat)).bind fun x90 =>
 (chk x51 l50.length).bind fun _ =>
 some (.inl ((nG l50 x51.toNat x90),w64 (x51 + 1)))
 else
 esc (some (l50,0))) big (x36,0)
 else
 some ([],x5)
def wAl (p0:wAT) (p1:Int):Option (Int) :=
 (idx p0.Teams p1).bind fun x5 =>
 (wCf p0 p1 (w64 ((↑x5.Legs.length:Int) - 1)) p0.Rules.Laps).bind fun x27 =>
 iter (fun (x43,x44) =>
 if x44 < (↑x5.Legs.length:Int) then
 iter (fun (x67,x68) =>
 (idx x5.Legs x44).bind fun x84 =>
 if x68 < (↑x84.Bouts.length:Int) then
 (idx x84.Bouts x68).bind fun x116 =>
 (wBC x116).bind fun (x128,x129) =>
 some (.inl (w64 (x67 + (w64 (x128.Unused * p0.Rules.Unused))),w64 (x68 + 1)))
 else
 esc (some (.inl (x67,w64 (x44 + 1))))) big (x43,0)
 else
 esc (some x43)) big (x27,0)
def wBF (p0:wAT):Option ((List wAR) × Int) :=
 (wBd p0).bind fun (x5,x6) =>
 if x6=0 then
 (wAv x5).bind fun (x45,x46) =>
 (wBE x5).bind fun (x61,x62) =>
 (mkz 1 (↑p0.Teams.length:Int) false).bind fun x75 =>
 iter (fun (l89,x90) =>
 if x90 < (↑l89.length:Int) then
 (idx x5.Times x90).bind fun x112 =>
 (chk x90 l89.length).bind fun _ =>
 (wCE 0 (↑x45.length:Int) (fun k138 l137 =>
 (chk x90 l137.length).bind fun _ =>
 if (gd l137 x90.toNat)=true then
 (chk (↑k138:Int) x45.length).bind fun _ =>
 (idx p0.Teams x90).bind fun x175 =>
 some (nG l137 x90.toNat (decide (¬ (((gd x45 k138).Bib)=x175.Bib))))
 else
 some (nG l137 x90.toNat false)) (nG l89 x90.toNat (decide ((↑x112.length:Int)=x5.Laps)))).bind fun y143 =>
 some (.inl (y143,w64 (x90 + 1)))
 else
 esc ((mkz 1 (↑p0.Teams.length:Int) false).bind fun x230 =>
 iter (fun (l252,l256) =>
 if (↑l252.length:Int) < (↑p0.Teams.length:Int) then
 iter (fun (x283,x284) =>
 if x284 < (↑p0.Teams.length:Int) then
 ((chk x284 l256.length).bind fun _ =>
 if (gd l256 x284.toNat)=true then
 some x283
 else
 (if x283 < 0 then
 some true
 else
 (chk x284 l89.length).bind fun _ =>
 if (gd l89 x284.toNat)=true then
 (chk x283 l89.length).bind fun _ =>
 some (!(gd l89 x283.toNat))
 else
 some false).bind fun b315 =>
 if b315=true then
 some x284
 else
 ((chk x283 l89.length).bind fun _ =>
 if (gd l89 x283.toNat)=true then
 (chk x284 l89.length).bind fun _ =>
 some (!(gd l89 x284.toNat))
 else
 some false).bind fun b351 =>
 if b351=true then
 some x283
 else
 (chk x283 x61.length).bind fun _ =>
 (chk x284 x61.length).bind fun _ =>
 (chk x284 l89.length).bind fun _ =>
 if (gd l89 x284.toNat)=true then
 (wAl p0 x284).bind fun x420 =>
 (wAl p0 x283).bind fun x432 =>
 if x420 < x432 then
 some x284
 else
 if x420=x432 then
 (idx p0.Teams x284).bind fun x459 =>
 (idx p0.Teams x283).bind fun x475 =>
 if x459.Bib < x475.Bib then
 some x284
 else
 some x283
 else
 some x283
 else
 if (gd x61 x283.toNat) < (gd x61 x284.toNat) then
 some x284
 else
 if (gd x61 x283.toNat)=(gd x61 x284.toNat) then
 (idx p0.Teams x284).bind fun x515 =>
 (idx p0.Teams x283).bind fun x540 =>
 if x515.Bib < x540.Bib then
 some x284
 else
 some x283
 else
 some x283).bind fun x304 =>
 some (.inl (x304,w64 (x284 + 1)))
 else
 esc ((chk x283 l256.length).bind fun _ =>
 (idx p0.Teams x283).bind fun x586 =>
 (chk x283 l89.length).bind fun _ =>
 if (gd l89 x283.toNat)=true then
 (wAl p0 x283).bind fun x629 =>
 iter (fun (x651,x652) =>
 if x652 < (↑p0.Teams.length:Int) then
 (chk x652 l89.length).bind fun _ =>
 if (gd l89 x652.toNat)=true then
 (wAl p0 x652).bind fun x683 =>
 if x683 < x629 then
 some (.inl (w64 (x651 + 1),w64 (x652 + 1)))
 else
 some (.inl (x651,w64 (x652 + 1)))
 else
 some (.inl (x651,w64 (x652 + 1)))
 else
 esc ((app 24 l252 [(⟨x586.Bib,x651,x629⟩:wAR)]).bind fun x715 =>
 some (.inl (x715,(nG l256 x283.toNat true))))) big (1,0)
 else
 (app 24 l252 [(⟨x586.Bib,0,0⟩:wAR)]).bind fun x733 =>
 some (.inl (x733,(nG l256 x283.toNat true))))) big (-1,0)
 else
 esc (some (l252,0))) big ([],x230))) big (x75,0)
 else
 some ([],x6)
def wDB (p0:wAE) (p1:wAE):Option (Bool) :=
 (wBD p0.Classes p1.Classes).bind fun x9 =>
 if x9=true then
 if p0.Each=p1.Each then
 if p0.Laps=p1.Laps then
 if p0.Spare=p1.Spare then
 if p0.Loop=p1.Loop then
 some (decide (p0.Unused=p1.Unused))
 else
 some false
 else
 some false
 else
 some false
 else
 some false
 else
 some false
def wCa (p0:List Bool) (p1:List Bool):Option (Bool) :=
 if (↑p0.length:Int)=(↑p1.length:Int) then
 jn (wEh 0 (↑p0.length:Int) (fun k4 _ =>
 (idx p0 (↑k4:Int)).bind fun x26 =>
 (idx p1 (↑k4:Int)).bind fun x34 =>
 if (x26 == x34)=true then
 some (.inl ())
 else
 esc (some false)) ()) fun _ =>
 some true
 else
 some false
def wBr (p0:List (List Bool)) (p1:List (List Bool)):Option (Bool) :=
 if (↑p0.length:Int)=(↑p1.length:Int) then
 jn (wEh 0 (↑p0.length:Int) (fun k4 _ =>
 (idx p0 (↑k4:Int)).bind fun x26 =>
 (idx p1 (↑k4:Int)).bind fun x39 =>
 (wCa x26 x39).bind fun x52 =>
 if x52=true then
 some (.inl ())
 else
 esc (some false)) ()) fun _ =>
 some true
 else
 some false
def wDU (p0:wAD) (p1:wAD):Option (Bool) :=
 (wDB p0.Rules p1.Rules).bind fun x9 =>
 if x9=true then
 if p0.Start=p1.Start then
 if (↑p0.Teams.length:Int)=(↑p1.Teams.length:Int) then
 jn (wEh 0 (↑p0.Teams.length:Int) (fun k26 _ =>
 (idx p0.Teams (↑k26:Int)).bind fun x46 =>
 (idx p1.Teams (↑k26:Int)).bind fun x70 =>
 if x46.Bib=x70.Bib then
 (wBD x46.Classes x70.Classes).bind fun x96 =>
 if x96=true then
 if (↑x46.Legs.length:Int)=(↑x70.Legs.length:Int) then
 jn (wEh 0 (↑x46.Legs.length:Int) (fun k111 _ =>
 (idx x46.Legs (↑k111:Int)).bind fun x135 =>
 (idx x70.Legs (↑k111:Int)).bind fun x159 =>
 if x135.Skier=x159.Skier then
 (wBD x135.Loops x159.Loops).bind fun x185 =>
 if x185=true then
 (wBr x135.Bouts x159.Bouts).bind fun x199 =>
 if x199=true then
 some (.inl ())
 else
 esc (esc (some false))
 else
 esc (esc (some false))
 else
 esc (esc (some false))) ()) fun _ =>
 some (.inl ())
 else
 esc (some false)
 else
 esc (some false)
 else
 esc (some false)) ()) fun _ =>
 some true
 else
 some false
 else
 some false
 else
 some false
def wCb (p0:wAD):Option (Bool) :=
 (wDP p0).bind fun x5 =>
 if x5=true then
 (wBu).bind fun x17 =>
 some x17
 else
 ((wCe p0).bind fun x139 =>
 (wDT p0).bind fun x159 =>
 some (x139.Rules.Classes,x139.Rules.Each,x139.Rules.Laps,x139.Rules.Spare,x139.Rules.Loop,x139.Rules.Unused,x139.Start,x139.Teams,x159.Rules.Classes,x159.Rules.Each,x159.Rules.Laps,x159.Rules.Spare,x159.Rules.Loop,x159.Rules.Unused,x159.Start,x159.Teams)).bind fun (l30,x33,x34,x35,x36,x37,x38,l39,l45,x48,x49,x50,x51,x52,x53,l54) =>
 (wFK (⟨(⟨l30,x33,x34,x35,x36,x37⟩:wAE),x38,l39⟩:wAD)).bind fun (x1145,x1146) =>
 (wDd (⟨(⟨l45,x48,x49,x50,x51,x52⟩:wAu),x53,l54⟩:wAT)).bind fun (x1174,x1175) =>
 if x1146=x1175 then
 if (↑x1145.length:Int)=(↑x1174.length:Int) then
 jn (wEh 0 (↑x1145.length:Int) (fun k1194 _ =>
 (chk (↑k1194:Int) x1145.length).bind fun _ =>
 (chk (↑k1194:Int) x1174.length).bind fun _ =>
 if (⟨(gd x1145 k1194).Bib,(gd x1145 k1194).Done,(gd x1145 k1194).Time,(gd x1145 k1194).By⟩:wAf)=(gd x1174 k1194) then
 some (.inl ())
 else
 esc (some false)) ()) fun _ =>
 (wDL (⟨(⟨l30,x33,x34,x35,x36,x37⟩:wAE),x38,l39⟩:wAD)).bind fun (x1260,x1261) =>
 (wBe (⟨(⟨l45,x48,x49,x50,x51,x52⟩:wAu),x53,l54⟩:wAT)).bind fun (x1289,x1290) =>
 if x1261=x1290 then
 (wBB x1260 x1289).bind fun x1314 =>
 if x1314=true then
 (wCB (⟨(⟨l30,x33,x34,x35,x36,x37⟩:wAE),x38,l39⟩:wAD)).bind fun (x1336,x1337) =>
 (wBF (⟨(⟨l45,x48,x49,x50,x51,x52⟩:wAu),x53,l54⟩:wAT)).bind fun (x1358,x1359) =>
 if x1337=x1359 then
 if (↑x1336.length:Int)=(↑x1358.length:Int) then
 jn (wEh 0 (↑x1336.length:Int) (fun k1386 _ =>
 (chk (↑k1386:Int) x1336.length).bind fun _ =>
 (chk (↑k1386:Int) x1358.length).bind fun _ =>
 if (⟨(gd x1336 k1386).Bib,(gd x1336 k1386).Place,(gd x1336 k1386).Time⟩:wAR)=(gd x1358 k1386) then
 some (.inl ())
 else
 esc (some false)) ()) fun _ =>
 (wDU (⟨(⟨l30,x33,x34,x35,x36,x37⟩:wAE),x38,l39⟩:wAD) p0).bind fun x1480 =>
 if x1480=true then
 (wBu).bind fun x1492 =>
 some x1492
 else
 some false
 else
 some false
 else
 some false
 else
 some false
 else
 some false
 else
 some false
 else
 some false
end
def inB (n lo hi:Int):Bool:=decide (lo <= n/\n <= hi)
theorem wFk (n lo hi:Int):wBx n lo hi=some (inB n lo hi):=by
 unfold wBx inB
 by_cases h:lo <= n
 ·rw [if_pos h];simp [h]
 ·rw [if_neg h];simp [h]
def wFe:List Bool->Nat->Option Nat
 | [],k=>some k
 | b :: l,k=>if k=5 then none else wFe l (k + if b=true then 1 else 0)
theorem wHq:∀ (l:List Bool) (k m:Nat),k <= 5->wFe l k=some m->k <= m/\m <= 5
 | [],k,m,hk,h=>by cases h;omega
 | b :: l,k,m,hk,h=>by
  rw [wFe] at h
  split at h
  ·cases h
  ·have:=wHq l _ m (by split <;> omega) h
   split at this <;> omega
theorem wHr {l:List Bool} {R:Type} (z:R) (K:Int->Option R):∀ (m k h:Nat),k + m=l.length->h <= 5 ->
  jn (forN (fun k23 (x22:Int)=>(idx l (↑k23:Int)).bind fun x45=>if x22=0 then esc (some z) else if x45=true then some (.inl (w64 (x22 - 1))) else some (.inl x22)) m k (5 - (h:Int))) K =
   (match wFe (l.drop k) h with | none=>some z | some m=>K (5 - (m:Int)))
 | 0,k,h,hk,_=>by rw [kU (by omega)];rfl
 | m + 1,k,h,hk,h5=>by
  have hlt:k < l.length:=by omega
  rw [List.drop_eq_getElem_cons hlt,wFe,forN,wIx,kL hlt]
  simp only [nA]
  by_cases hz:h=5
  ·rw [if_pos (by omega),if_pos hz];rfl
  ·rw [if_neg (by omega),if_neg hz]
   by_cases hb:l[k]=true
   ·rw [if_pos hb,if_pos hb,wAQ (by omega) (by omega)]
    have:=wHr (l:=l) z K m (k + 1) (h + 1) (by omega) (by omega)
    rw [show (5:Int) - ((h + 1:Nat):Int)=5 - (h:Int) - 1 by omega] at this
    exact this
   ·rw [if_neg hb,if_neg hb]
    exact wHr (l:=l) z K m (k + 1) h (by omega) h5
def okB (b:List Bool):Prop:=5 <= b.length/\b.length <= 8/\∃ m,wFe b 0=some m
def wFZ (b:List Bool):Nat:=(wFe b 0).getD 0
theorem wPD (b:List Bool):wFZ b <= 5:=by
 unfold wFZ
 cases h:wFe b 0 with
 | none=>exact Nat.zero_le _
 | some m=>exact (wHq b 0 m (by omega) h).2
theorem wLn {l:List Bool} (h:okB l):wCr l=some (⟨(l.length:Int) - 5,5 - (wFZ l:Int),if wFZ l < 5 then 8 - (l.length:Int) else 0⟩,0):=by
 obtain ⟨h1,h2,m,hq⟩:=h
 have hn:wFZ l=m:=by unfold wFZ;rw [hq];rfl
 rw [hn]
 unfold wCr
 have hi:inB l.length 5 8=true:=by unfold inB;simp;omega
 rw [wFk,nA,hi,if_pos rfl,wDo (by omega)]
 have:=wHr (l:=l) (R:=wAa × Int) ((⟨0,0,0⟩:wAa),8) (fun y72=>if 0 < y72 then
   some ((⟨w64 ((↑l.length:Int) - 5),y72,w64 (8 - (↑l.length:Int))⟩:wAa),0)
  else
   some ((⟨w64 ((↑l.length:Int) - 5),y72,0⟩:wAa),0)) l.length 0 0 (by omega) (by omega)
 rw [kV] at this
 have e:(5:Int) - ((0:Nat):Int)=5:=by omega
 rw [e] at this
 rw [this,hq]
 have:=wHq l 0 m (by omega) hq
 simp only
 rw [wAQ (by omega) (by omega),wAQ (by omega) (by omega)]
 by_cases hm:m < 5
 ·rw [if_pos (by omega),if_pos hm]
 ·rw [if_neg (by omega),if_neg hm]
structure wEg (p:wAE):Prop where
 n:1 <= p.Classes.length/\p.Classes.length <= 4
 cls:∀ c ∈ p.Classes,0 <= c/\c <= 3
 each:1 <= p.Each/\p.Each <= 4
 laps:1 <= p.Laps/\p.Laps <= 5
 spare:0 <= p.Spare/\p.Spare <= 600
 loop:0 <= p.Loop/\p.Loop <= 600
 unused:0 <= p.Unused/\p.Unused <= 6000
structure wHs (p:wAE) (t:wAH) (l:wAN):Prop where
 le:(l.Loops.length:Int) <= p.Laps
 bouts:l.Bouts.length=l.Loops.length - 1
 loops:∀ n ∈ l.Loops,1 <= n/\n <= 9000
 skier:0 <= l.Skier/\l.Skier < t.Classes.length
 ok:∀ b ∈ l.Bouts,okB b
structure wQU (p:wAE) (t:wAH):Prop where
 bib:1 <= t.Bib/\t.Bib <= 999
 n:1 <= t.Classes.length/\t.Classes.length <= 8
 cls:∀ c ∈ t.Classes,0 <= c/\c <= 3
 legs:t.Legs.length <= p.Classes.length
 full:∀ k,k + 1 < t.Legs.length->((gd t.Legs k).Loops.length:Int)=p.Laps
 leg:∀ l ∈ t.Legs,wHs p t l
structure wGO (r:wAD):Prop where
 rules:wEg r.Rules
 n:1 <= r.Teams.length/\r.Teams.length <= 12
 start:0 <= r.Start/\r.Start <= 36000
 team:∀ t ∈ r.Teams,wQU r.Rules t
 bibs:(r.Teams.map (·.Bib)).Nodup
theorem wED {n lo hi:Int} (h1:lo <= n) (h2:n <= hi):inB n lo hi=true:=by unfold inB;simp [h1,h2]
theorem wJS {l:List Int} {f:Int->Option Bool} {p:Int->Bool} (hf:∀ a,f a=some (p a)) (hn:l.length <= 9223372036854775807):wBg l f=some (l.all p):=by
 unfold wBg wCG wCi wCw
 have:=wGt (R:=Int) (l:=l) (f:=fun x=>(f x).bind fun x5=>some (!x5)) (p:=fun a=>!p a) (fun a _=>by rw [hf];rfl) hn id
 simp only [id] at this
 rw [this]
 simp only [nA,wGo]
 congr 1
 clear this hn
 induction l with
 | nil=>rfl
 | cons a l ih=>rw [kG,np,<- ih];cases p a <;> simp
theorem wOG {l:List wAU} {f:wAU->Option Bool} {p:wAU->Bool} (hf:∀ a ∈ l,f a=some (p a)) (hn:l.length <= 9223372036854775807):wCM l f=some (l.all p):=by
 unfold wCM wAs wAx wBL
 have:=wGt (R:=Int) (l:=l) (f:=fun x=>(f x).bind fun x5=>some (!x5)) (p:=fun a=>!p a) (fun a ha=>by rw [hf a ha];rfl) hn id
 simp only [id] at this
 rw [this]
 simp only [nA,wGo]
 congr 1
 clear this hn hf
 induction l with
 | nil=>rfl
 | cons a l ih=>rw [kG,np,<- ih];cases p a <;> simp
theorem wMb {l:List wAH} {f:wAH->Option Bool} (hf:∀ a ∈ l,f a=some true) (hn:l.length <= 9223372036854775807):wAz l f=some true:=by
 unfold wAz wAk wAp wBA
 have:=wGt (R:=Int) (l:=l) (f:=fun x=>(f x).bind fun x5=>some (!x5)) (p:=fun _=>false) (fun a ha=>by rw [hf a ha];rfl) hn id
 simp only [id] at this
 rw [this]
 simp only [nA,wGo]
 simp
theorem wPG {p:wAE} (g:wEg p):wBw p=some 0:=by
 unfold wBw
 have h1:=g.n
 have h2:=g.each;have h3:=g.laps;have h4:=g.spare;have h5:=g.loop;have h6:=g.unused
 rw [wFk,nA,wED (by omega) (by omega),if_pos rfl]
 have hc:wBz p.Classes=some true:=by
  unfold wBz
  rw [wJS (f:=wBJ) (p:=fun n=>inB n 0 3) (fun a=>by unfold wBJ;rw [wFk];rfl) (by omega),nA]
  exact congrArg some (nX.2 fun c hc=>wED (g.cls c hc).1 (g.cls c hc).2)
 rw [hc,nA,if_pos rfl]
 unfold wEO
 rw [nA,wOG (p:=fun a=>match a.of p with | some x=>inB x a.lo a.hi | none=>true) (fun a ha=>by
  unfold wBt
  simp only [nq,List.not_mem_nil,or_false] at ha
  rcases ha with rfl | rfl | rfl | rfl | rfl <;> simp [wBh,wBi,wBj,wBk,wBl,wFk]) (by simp)]
 simp only [nA,np,List.all_nil,Bool.and_true,wBh,wBi,wBj,wBk,wBl]
 rw [wED h2.1 h2.2,wED h3.1 h3.2,wED h4.1 h4.2,wED h5.1 h5.2,wED h6.1 h6.2]
 rfl
theorem wPH {p:wAE} (gp:wEg p) {t:wAH} (g:wQU p t):wBM p t=some true:=by
 unfold wBM
 have h1:=g.n;have h2:=g.legs;have h3:=gp.n;have h4:=gp.laps
 rw [wFk,nA,wED (by omega) (by omega),if_pos rfl,if_neg (by omega)]
 rw [wDf (by omega) fun k hk=>?_]
 ·rfl
 ·have gl:=g.leg _ (wAW hk)
  have b1:=gl.le;have b2:=gl.bouts
  rw [wAX hk,nA,if_neg (by omega)]
  have hb:((gd t.Legs k).Bouts.length:Int)=max 0 (w64 (((gd t.Legs k).Loops.length:Int) - 1)):=by
   rw [wAQ (by omega) (by omega)]
   omega
  rw [wAQ (x:=(t.Legs.length:Int) - 1) (by omega) (by omega)]
  by_cases hl:(k:Int) < (t.Legs.length:Int) - 1
  ·rw [if_pos hl,if_neg (by have:=g.full k (by omega);omega),if_pos hb]
  ·rw [if_neg hl,if_pos hb]
theorem wLo {E:Type} {f:Unit->(wAH × wAN)->Option (Unit ⊕ E)} {r:wAD} (hn:r.Teams.length <= 1000) (hl:∀ t ∈ r.Teams,t.Legs.length <= 1000) (h:∀ t ∈ r.Teams,∀ l ∈ t.Legs,f () (t,l)=some (.inl ())):wBN f () r=some (.inl ()):=by
 unfold wBN
 rw [wDf (by omega) fun k hk=>?_]
 ·rfl
 ·have ht:=wAW hk
  rw [wAX hk,nA,wDf (by have:=hl _ ht;omega) fun j hj=>?_]
  ·rfl
  ·rw [wAX hj,nA,h _ ht _ (wAW hj)]
   rfl
theorem wPI {l:List (Int × Bool)} {x:Int} {v:Bool} (h:∀ q ∈ l,q.1 ≠ x):wFf l x v=l ++ [(x,v)]:=by
 induction l with
 | nil=>rfl
 | cons a l ih =>
  obtain ⟨y,u⟩:=a
  have:=h (y,u) (by simp)
  rw [wFf,if_neg (fun e=>this e.symm),ih fun q hq=>h q (by simp [hq])]
  rfl
theorem wNO {l:List Int} (h:l.Nodup) {k:Nat} (hk:k < l.length):∀ a ∈ l.take k,a ≠ gd l k:=by
 intro a ha e
 rw [<- nt k l,wIM hk,nc] at h
 exact h.2.2 a ha _ (kZ ..) e
theorem wPJ {r:wAD} (g:wGO r):wDI r=some 0:=by
 unfold wDI
 have h1:=g.n;have h2:=g.start
 have hl:∀ t ∈ r.Teams,t.Legs.length <= 1000:=fun t ht=>by have:=(g.team t ht).legs;have:=g.rules.n;omega
 rw [wPG g.rules,nA,if_pos rfl,wFk,nA,wED (by omega) (by omega),if_pos rfl,wMb (fun t ht=>wPH g.rules (g.team t ht)) (by omega),nA,if_pos rfl,
  wFk,nA,wED h2.1 h2.2,if_pos rfl,wMb (fun t ht=>?_) (by omega),nA,if_pos rfl]
 ·unfold wCn
  rw [nA,wLo (by omega) hl fun t ht l hm=>?_,nA]
  ·simp only [nA]
   rw [wLo (by omega) hl fun t ht l hm=>?_,nA]
   ·simp only [nA]
    rw [wLo (by omega) hl fun t ht l hm=>?_,nA]
    ·simp only
     have:=wBs (S:=List (Int × Bool)) (n:=r.Teams.length) (body:=fun k640 l637=>(idx r.Teams (↑k640:Int)).bind fun x664=>some (wFf l637 x664.Bib true)) (fun k=>(r.Teams.take k).map fun t=>(t.Bib,true)) (s0:=[]) rfl (by omega) fun k hk=>by
      rw [wAX hk,nA,wBo hk,nL,wPI fun q hq=>?_]
      ·rfl
      ·obtain ⟨t,ht,rfl⟩:=na.1 hq
       have:=wNO g.bibs (k:=k) (by simpa using hk) t.Bib (by rw [<- kW];exact na.2 ⟨t,ht,rfl⟩)
       rw [wEV _ hk] at this
       exact this
     rw [this,nA,if_neg (by simp)]
    ·have gl:=(g.team t ht).leg l hm
     have hb:=gl.bouts;have hle:=gl.le;have:=g.rules.laps
     simp only
     rw [wDf (by omega) fun k hk=>?_]
     ·rfl
     ·rw [wAX hk,nA,wLn (gl.ok _ (wAW hk))]
      rfl
   ·have gl:=(g.team t ht).leg l hm
    have:=gl.skier;have:=(g.team t ht).n
    simp only
    rw [wFk,nA,wAQ (by omega) (by omega),wED (by omega) (by omega),if_pos rfl]
  ·have gl:=(g.team t ht).leg l hm
   have hle:=gl.le;have:=g.rules.laps
   simp only
   rw [wJS (f:=wCU) (p:=fun n=>inB n 1 9000) (fun a=>by unfold wCU;rw [wFk];rfl) (by omega),nA,if_pos]
   exact nX.2 fun n hn=>wED (gl.loops n hn).1 (gl.loops n hn).2
 ·have gt:=g.team t ht
  have:=gt.n
  unfold wDQ
  rw [wFk,nA,wED gt.bib.1 gt.bib.2,if_pos rfl]
  unfold wBz
  rw [wJS (f:=wBJ) (p:=fun n=>inB n 0 3) (fun a=>by unfold wBJ;rw [wFk];rfl) (by omega),nA,nA]
  exact congrArg some (nX.2 fun c hc=>wED (gt.cls c hc).1 (gt.cls c hc).2)
def bc (p:wAE) (b:List Bool):Int:=((b.length:Int) - 5) * p.Spare + (5 - (wFZ b:Int)) * p.Loop
def tAt (p:wAE) (l:wAN) (x:Int):Nat->Int
 | 0=>x
 | k + 1=>tAt p l x k + gd l.Loops k + if 0 < k then bc p (gd l.Bouts (k - 1)) else 0
def wOH (p:wAE) (l:wAN) (x:Int):List Int:=(nm l.Loops.length).map fun k=>tAt p l x (k + 1)
def wMc (p:wAE) (l:wAN) (x:Int):Int:=tAt p l x l.Loops.length
def wFB (p:wAE):List wAN->Int->Int
 | [],x=>x
 | l :: r,x=>wFB p r (wMc p l x)
def wEf (p:wAE):List wAN->Int->List Int
 | [],_=>[]
 | l :: r,x=>wOH p l x ++ wEf p r (wMc p l x)
theorem wKJ {p:wAE} (g:wEg p) {b:List Bool} (h:okB b):0 <= ((b.length:Int) - 5) * p.Spare/\((b.length:Int) - 5) * p.Spare <= 1800/\0 <= (5 - (wFZ b:Int)) * p.Loop/\(5 - (wFZ b:Int)) * p.Loop <= 3000:=by
 obtain ⟨h1,h2,_⟩:=h
 have h3:=wPD b
 have a1:=g.spare;have a2:=g.loop
 refine ⟨kB (by omega) a1.1,?_,kB (by omega) a2.1,?_⟩
 ·exact Int.le_trans (kC (show (b.length:Int) - 5 <= 3 by omega) a1.2 a1.1 (by omega)) (by omega)
 ·exact Int.le_trans (kC (show 5 - (wFZ b:Int) <= 5 by omega) a2.2 a2.1 (by omega)) (by omega)
theorem wMd {p:wAE} (gp:wEg p) {t:wAH} {l:wAN} (g:wHs p t l) (x:Int) {k:Nat} (hk:k < l.Loops.length):tAt p l x k + 1 <= tAt p l x (k + 1)/\tAt p l x (k + 1) <= tAt p l x k + 13800:=by
 have h1:=g.loops _ (wAW hk)
 rw [tAt]
 by_cases h:0 < k
 ·have hb:=g.bouts
  have:=wKJ gp (g.ok _ (wAW (k:=k - 1) (by omega)))
  rw [if_pos h]
  unfold bc
  omega
 ·rw [if_neg h];omega
theorem wHt {p:wAE} (gp:wEg p) {t:wAH} {l:wAN} (g:wHs p t l) (x:Int):∀ k,k <= l.Loops.length->x + k <= tAt p l x k/\tAt p l x k <= x + 13800 * k
 | 0,_=>by simp [tAt]
 | k + 1,hk=>by
  have:=wMd gp g x (k:=k) (by omega)
  have:=wHt gp g x k (by omega)
  omega
theorem wJt {p:wAE} (gp:wEg p) {t:wAH} {l:wAN} (g:wHs p t l) (x:Int):x <= wMc p l x/\wMc p l x <= x + 69000:=by
 have:=wHt gp g x l.Loops.length (kE _)
 have:=g.le;have:=gp.laps
 unfold wMc
 omega
theorem wQV {p:wAE} (gp:wEg p) {t:wAH} {l:wAN} (g:wHs p t l) {x:Int} (hx:0 <= x/\x <= 1000000) {k:Nat} (hk:k < l.Loops.length) :
  (0 < k->idx l.Bouts (w64 ((k:Int) - 1))=some (gd l.Bouts (k - 1))/\okB (gd l.Bouts (k - 1)) /\
   w64 ((w64 (tAt p l x k + gd l.Loops k)) + (w64 ((w64 ((((gd l.Bouts (k - 1)).length:Int) - 5) * p.Spare)) + (w64 ((5 - (wFZ (gd l.Bouts (k - 1)):Int)) * p.Loop)))))=tAt p l x (k + 1)) /\
  (¬ 0 < k->w64 (tAt p l x k + gd l.Loops k)=tAt p l x (k + 1)):=by
 have h1:=g.loops _ (wAW hk)
 have h2:=wHt gp g x k (by omega)
 have h3:=g.le;have h4:=gp.laps;have hb:=g.bouts
 refine ⟨fun h=>?_,fun h=>?_⟩
 ·have ho:=g.ok _ (wAW (k:=k - 1) (by omega))
  have:=wKJ gp ho
  refine ⟨?_,ho,?_⟩
  ·rw [wAQ (by omega) (by omega),show (k:Int) - 1=((k - 1:Nat):Int) by omega]
   exact wAX (by omega)
  ·rw [tAt,if_pos h]
   unfold bc
   rw [wAQ (x:=tAt p l x k + gd l.Loops k) (by omega) (by omega),wAQ (x:=(((gd l.Bouts (k - 1)).length:Int) - 5) * p.Spare) (by omega) (by omega),wAQ (x:=(5 - (wFZ (gd l.Bouts (k - 1)):Int)) * p.Loop) (by omega) (by omega),wAQ (x:=(((gd l.Bouts (k - 1)).length:Int) - 5) * p.Spare + (5 - (wFZ (gd l.Bouts (k - 1)):Int)) * p.Loop) (by omega) (by omega),wAQ (by omega) (by omega)]
 ·rw [tAt,if_neg h,wAQ (by omega) (by omega),Int.add_zero]
theorem wKw (p:wAE) (l:wAN) (x:Int) (k:Nat):(nm (k + 1)).map (fun i=>tAt p l x (i + 1))=(nm k).map (fun i=>tAt p l x (i + 1)) ++ [tAt p l x (k + 1)]:=by
 rw [kQ,nL]
 rfl
theorem wFE (p:wAE) (a:wAN):∀ (l:List wAN) (x:Int),wEf p (l ++ [a]) x=wEf p l x ++ wOH p a (wFB p l x)/\wFB p (l ++ [a]) x=wMc p a (wFB p l x)
 | [],x=>by simp [wEf,wFB]
 | b :: l,x=>by
  have:=wFE p a l (wMc p b x)
  exact ⟨by rw [kM,wEf,wEf,this.1,ng];rfl,this.2⟩
theorem wHU {p:wAE} (gp:wEg p) {t:wAH}:∀ (l:List wAN) (x:Int),(∀ a ∈ l,wHs p t a)->x <= wFB p l x/\wFB p l x <= x + 69000 * (l.length:Int)
 | [],x,_=>by simp [wFB]
 | a :: l,x,h=>by
  have h1:=wJt gp (h a (by simp)) x
  have h2:=wHU gp l (wMc p a x) fun b hb=>h b (by simp [hb])
  rw [wFB]
  simp only [nP]
  omega
def after (r:wAD):List (List Int):=r.Teams.map fun t=>wEf r.Rules t.Legs r.Start
theorem wFU {p:wAE} (gp:wEg p) {t:wAH}:∀ (l:List wAN) (x:Int),(∀ a ∈ l,wHs p t a)->(wEf p l x).length <= 5 * l.length
 | [],x,_=>by simp [wEf]
 | a :: l,x,h=>by
  have h1:=(h a (by simp)).le
  have h2:=wFU gp l (wMc p a x) fun b hb=>h b (by simp [hb])
  have:=gp.laps
  rw [wEf,nY]
  simp only [wOH,nI,ke,nP]
  omega
theorem wMe {r:wAD} (g:wGO r):wDJ r=some (some ⟨r,after r⟩,0):=by
 unfold wDJ
 rw [wPJ g,nA,if_pos rfl]
 have hn:=g.n;have hs:=g.start
 rw [wBs (S:=List (List Int)) (n:=r.Teams.length) (fun k=>(r.Teams.take k).map fun t=>wEf r.Rules t.Legs r.Start) (s0:=[]) rfl (by omega) fun k hk=>?_]
 ·rw [nA,nE]
  rfl
 ·have gt:=g.team _ (wAW hk)
  have hleg:=gt.legs;have hc:=g.rules.n
  rw [wAX hk,nA]
  rw [wBs (S:=Int × List Int) (n:=(gd r.Teams k).Legs.length) (fun j=>(wFB r.Rules ((gd r.Teams k).Legs.take j) r.Start,wEf r.Rules ((gd r.Teams k).Legs.take j) r.Start)) (s0:=(r.Start,[])) rfl (by omega) fun j hj=>?_]
  ·simp only [nA,nE]
   have hlen:=wFU g.rules (gd r.Teams k).Legs r.Start gt.leg
   rw [wDM (by simp;omega),nA,wBo hk,nL]
   rfl
  ·have gl:=gt.leg _ (wAW hj)
   have hE:=wHU g.rules ((gd r.Teams k).Legs.take j) r.Start fun a ha=>gt.leg a (nV ha)
   have hL:=wFU g.rules ((gd r.Teams k).Legs.take j) r.Start fun a ha=>gt.leg a (nV ha)
   rw [nT] at hE hL
   have hx:0 <= wFB r.Rules ((gd r.Teams k).Legs.take j) r.Start/\wFB r.Rules ((gd r.Teams k).Legs.take j) r.Start <= 1000000:=by omega
   generalize hX:wFB r.Rules ((gd r.Teams k).Legs.take j) r.Start=X at hx
   generalize hY:wEf r.Rules ((gd r.Teams k).Legs.take j) r.Start=Y at hL
   have hlap:=g.rules.laps;have hle:=gl.le
   simp only
   rw [wAX hj,nA]
   rw [wBs (S:=Int × List Int) (n:=(gd (gd r.Teams k).Legs j).Loops.length) (fun i=>(tAt r.Rules (gd (gd r.Teams k).Legs j) X i,Y ++ (nm i).map fun q=>tAt r.Rules (gd (gd r.Teams k).Legs j) X (q + 1))) (s0:=(X,Y)) (by simp [tAt]) (by omega) fun i hi=>?_]
   ·simp only [nA]
    rw [wBo hj,(wFE _ _ _ _).1,(wFE _ _ _ _).2,hX,hY]
    rfl
   ·obtain ⟨l1,l2⟩:=wQV g.rules gl hx hi
    simp only
    rw [wAX hi,nA]
    by_cases h0:0 < i
    ·obtain ⟨e1,e2,e3⟩:=l1 h0
     rw [if_pos (by omega),e1,nA,wLn e2]
     simp only [nA]
     rw [e3,wDM (by simp;omega),nA,wKw,ng]
    ·rw [if_neg (by omega),l2 h0,wDM (by simp;omega),nA,wKw,ng]
def wDV (r:wAD):wAF:=⟨(r.Rules.Classes.length:Int) * r.Rules.Laps,r.Teams.map (·.Bib),after r⟩
theorem wOI {r:wAD} (g:wGO r):wCN ⟨r,after r⟩=some (wDV r):=by
 unfold wCN
 have hn:=g.n
 simp only
 rw [wBs (S:=List Int × List (List Int)) (n:=r.Teams.length) (fun k=>((r.Teams.take k).map (·.Bib),(r.Teams.take k).map fun t=>wEf r.Rules t.Legs r.Start)) (s0:=([],[])) rfl (by omega) fun k hk=>?_]
 ·simp only [nA,nE]
  have h1:=g.rules.n;have h2:=g.rules.laps
  have h3:0 <= (r.Rules.Classes.length:Int) * r.Rules.Laps:=kB (by omega) (by omega)
  have h4:(r.Rules.Classes.length:Int) * r.Rules.Laps <= 4 * 5:=kC (by omega) h2.2 (by omega) (by omega)
  rw [wAQ (by omega) (by omega)]
  rfl
 ·have gt:=g.team _ (wAW hk)
  have hlen:=wFU g.rules (gd r.Teams k).Legs r.Start gt.leg
  have hc:=g.rules.n;have hleg:=gt.legs
  simp only
  rw [wAX hk,nA,wDM (by simp;omega),nA]
  unfold after
  rw [wAX (by simpa using hk),nA,wEV _ hk]
  unfold wBT
  rw [wDM (by simp;omega)]
  simp only [nA,List.nil_append]
  rw [wDM (by simp;omega),nA,wBo hk,nL,nL]
  rfl
def allN (q:Nat->Bool):Nat->Nat->Bool
 | 0,_=>true
 | m + 1,k=>q k && allN q m (k + 1)
def fnd {B:Type} (f:Nat->Option B):Nat->Nat->Option B
 | 0,_=>none
 | m + 1,k=>match f k with
  | some c=>some c
  | none=>fnd f m (k + 1)
theorem allN_iff (q:Nat->Bool):∀ m k,allN q m k=true ↔ ∀ i,k <= i->i < k + m->q i=true
 | 0,k=>⟨fun _ i h1 h2=>by omega,fun _=>rfl⟩
 | m + 1,k=>by
  rw [allN,nM,allN_iff q m (k + 1)]
  constructor
  ·rintro ⟨h1,h2⟩ i h3 h4
   by_cases e:i=k
   ·exact e ▸ h1
   ·exact h2 i (by omega) (by omega)
  ·exact fun h=>⟨h k (by omega) (by omega),fun i h1 h2=>h i (by omega) (by omega)⟩
theorem wJu {q q':Nat->Bool}:∀ m k,(∀ i,k <= i->i < k + m->q i=q' i)->allN q m k=allN q' m k
 | 0,_,_=>rfl
 | m + 1,k,h=>by rw [allN,allN,h k (by omega) (by omega),wJu m (k + 1) fun i h1 h2=>h i (by omega) (by omega)]
theorem wIN {A B:Type} (g:A->B) (f:Nat->Option A):∀ m k,fnd (fun i=>(f i).map g) m k=(fnd f m k).map g
 | 0,_=>rfl
 | m + 1,k=>by
  rw [fnd,fnd,wIN g f m (k + 1)]
  cases f k <;> rfl
theorem fnd_if {B:Type} (q:Nat->Bool) (c:B):∀ m k,fnd (fun i=>if q i=true then none else some c) m k=if allN q m k=true then none else some c
 | 0,_=>rfl
 | m + 1,k=>by
  rw [fnd,fnd_if q c m (k + 1),allN]
  cases q k <;> simp
def out {S B:Type} (s:S):Option B->S ⊕ B
 | none=>.inl s
 | some c=>.inr c
theorem forN_fnd {B:Type} {body:Nat->Unit->Option (Unit ⊕ B)} {f:Nat->Option B}:∀ (m k:Nat),(∀ i,k <= i->i < k + m->body i ()=some (out () (f i)))->forN body m k ()=some (out () (fnd f m k))
 | 0,_,_=>rfl
 | m + 1,k,h=>by
  rw [forN,h k (by omega) (by omega),fnd]
  cases f k with
  | none=>exact forN_fnd m (k + 1) fun i h1 h2=>h i (by omega) (by omega)
  | some c=>rfl
theorem forR_fnd {B:Type} {body:Nat->Unit->Option (Unit ⊕ B)} {n:Nat} (f:Nat->Option B) (hn:n <= 1000) (h:∀ i,i < n->body i ()=some (out () (f i))):wEh 0 (n:Int) body ()=some (out () (fnd f n 0)):=by
 rw [wDo (by omega)]
 exact forN_fnd n 0 fun i _ hi=>h i (by omega)
theorem forR_all {B:Type} {body:Nat->Unit->Option (Unit ⊕ B)} {n:Nat} (q:Nat->Bool) (c:B) (hn:n <= 1000) (h:∀ i,i < n->body i ()=some (if q i=true then .inl () else .inr c)):wEh 0 (n:Int) body ()=some (if allN q n 0=true then .inl () else .inr c):=by
 rw [forR_fnd (fun i=>if q i=true then none else some c) hn fun i hi=>by rw [h i hi];split <;> rfl,fnd_if]
 split <;> rfl
theorem iter_fnd_from {B:Type} {body:Int->Option (Int ⊕ B)} {f:Nat->Option B} {z:B} {n:Nat} (h:∀ i,i < n->body (i:Int)=some (out ((i:Int) + 1) (f i))) (hz:body (n:Int)=some (.inr z)):∀ (m k F:Nat),k + m=n->m < F->iter body F (k:Int)=some ((fnd f m k).getD z)
 | 0,k,F,hk,hF=>by
  obtain ⟨F,rfl⟩:∃ G,F=G + 1:=⟨F - 1,by omega⟩
  obtain rfl:k=n:=by omega
  rw [iter,hz]
  rfl
 | m + 1,k,F,hk,hF=>by
  obtain ⟨F,rfl⟩:∃ G,F=G + 1:=⟨F - 1,by omega⟩
  rw [iter,h k (by omega),fnd]
  cases f k with
  | none=>exact iter_fnd_from h hz m (k + 1) F (by omega) (by omega)
  | some c=>rfl
theorem iter_fnd {B:Type} {body:Int->Option (Int ⊕ B)} {n:Nat} (f:Nat->Option B) {z:B} (hn:n <= 1000) (h:∀ i,i < n->body (i:Int)=some (out ((i:Int) + 1) (f i))) (hz:body (n:Int)=some (.inr z)):iter body big 0=some ((fnd f n 0).getD z) :=
 iter_fnd_from h hz n 0 big (by omega) (by unfold big;omega)
theorem iter_all {B:Type} {body:Int->Option (Int ⊕ B)} {n:Nat} (q:Nat->Bool) (c:B) {z:B} (hn:n <= 1000) (h:∀ i,i < n->body (i:Int)=some (if q i=true then .inl ((i:Int) + 1) else .inr c)) (hz:body (n:Int)=some (.inr z)):iter body big 0=some (if allN q n 0=true then z else c):=by
 rw [iter_fnd (fun i=>if q i=true then none else some c) hn (fun i hi=>by rw [h i hi];split <;> rfl) hz,fnd_if]
 split <;> rfl
theorem all_allN {α:Type} [Inhabited α] (p:α->Bool) (l:List α):l.all p=allN (fun k=>p (gd l k)) l.length 0:=by
 rw [kR,allN_iff,nX]
 constructor
 ·exact fun h i _ hi=>h _ (wAW (by omega))
 ·intro h a ha
  obtain ⟨k,hk,e⟩:=nH ha
  have:=h k (by omega) (by omega)
  rw [wCv hk,e] at this
  exact this
def cvR (p:wAE):wAu:=⟨p.Classes,p.Each,p.Laps,p.Spare,p.Loop,p.Unused⟩
def cvL (l:wAN):wCS:=⟨l.Skier,l.Loops,l.Bouts⟩
def cvT (t:wAH):wCH:=⟨t.Bib,t.Classes,t.Legs.map cvL⟩
def cv (r:wAD):wAT:=⟨cvR r.Rules,r.Start,r.Teams.map cvT⟩
structure wOK (l:wAN):Prop where
 loops:l.Loops.length <= 7
 bouts:l.Bouts.length <= 7
 bout:∀ b ∈ l.Bouts,b.length <= 12
structure wMf (t:wAH):Prop where
 cls:t.Classes.length <= 10
 legs:t.Legs.length <= 6
 leg:∀ l ∈ t.Legs,wOK l
structure wGp (r:wAD):Prop where
 cls:r.Rules.Classes.length <= 6
 n:r.Teams.length <= 14
 team:∀ t ∈ r.Teams,wMf t
theorem wHu (n lo hi:Int):wAd n lo hi=some (!inB n lo hi):=by
 unfold wAd inB
 by_cases h1:n < lo
 ·rw [if_pos h1];simp;omega
 ·rw [if_neg h1]
  by_cases h2:hi < n
  ·rw [decide_eq_true h2,decide_eq_false (by omega)];rfl
  ·rw [decide_eq_false h2,decide_eq_true (by omega)];rfl
def wLp (l:List Int):Bool:=l.all fun c=>inB c 0 3
theorem wPx {l:List Int} (hn:l.length <= 1000):wCz l=some (!wLp l):=by
 unfold wCz
 rw [forR_all (fun k=>inB (gd l k) 0 3) (some true |>.getD true) hn fun i hi=>?_]
 ·unfold wLp
  rw [all_allN]
  cases allN (fun k=>inB (gd l k) 0 3) l.length 0 <;> rfl
 ·rw [wAX hi,nA,wHu,nA]
  cases inB (gd l i) 0 3 <;> rfl
theorem wJv {l:List Int} (hn:l.length <= 1000):wBz l=some (wLp l):=by
 unfold wBz
 rw [wJS (f:=wBJ) (p:=fun n=>inB n 0 3) (fun a=>by unfold wBJ;rw [wFk];rfl) (by omega),nA]
 rfl
def wNg (p:wAE):Int :=
 if inB (p.Classes.length:Int) 1 4=true then
 if (wLp p.Classes && (inB p.Each 1 4 && (inB p.Laps 1 5 && (inB p.Spare 0 600 && (inB p.Loop 0 600 && inB p.Unused 0 6000)))))=true then 0 else 3
 else 2
theorem wOL {p:wAE} (hn:p.Classes.length <= 1000):wBw p=some (wNg p):=by
 unfold wBw wNg wEO
 rw [wFk,nA,wJv hn,nA,nA,wOG (p:=fun a=>match a.of p with | some x=>inB x a.lo a.hi | none=>true) (fun a ha=>by
  unfold wBt
  simp only [nq,List.not_mem_nil,or_false] at ha
  rcases ha with rfl | rfl | rfl | rfl | rfl <;> simp [wBh,wBi,wBj,wBk,wBl,wFk]) (by simp)]
 simp only [nA,np,List.all_nil,Bool.and_true,wBh,wBi,wBj,wBk,wBl]
 cases inB (p.Classes.length:Int) 1 4 <;> cases wLp p.Classes <;> cases inB p.Each 1 4 <;> cases inB p.Laps 1 5 <;> cases inB p.Spare 0 600 <;> cases inB p.Loop 0 600 <;> cases inB p.Unused 0 6000 <;> rfl
theorem wPL {p:wAE} (hn:p.Classes.length <= 1000):wCD (cvR p)=some (wNg p):=by
 unfold wCD wNg cvR
 simp only [wHu,wPx hn,nA]
 cases inB (p.Classes.length:Int) 1 4 <;> cases wLp p.Classes <;> cases inB p.Each 1 4 <;> cases inB p.Laps 1 5 <;> cases inB p.Spare 0 600 <;> cases inB p.Loop 0 600 <;> cases inB p.Unused 0 6000 <;> rfl
def szL (p:wAE) (t:wAH) (k:Nat):Bool :=
 decide (¬ p.Laps < ((gd t.Legs k).Loops.length:Int)) && (decide (k + 1 < t.Legs.length->((gd t.Legs k).Loops.length:Int)=p.Laps) && decide ((gd t.Legs k).Bouts.length=(gd t.Legs k).Loops.length - 1))
def sz (p:wAE) (t:wAH):Bool:=inB (t.Classes.length:Int) 1 8 && (decide (t.Legs.length <= p.Classes.length) && allN (szL p t) t.Legs.length 0)
theorem wQW {p:wAE} {t:wAH} (h:wMf t):wBM p t=some (sz p t):=by
 unfold wBM sz
 have h1:=h.legs
 rw [wFk,nA]
 by_cases e1:inB (t.Classes.length:Int) 1 8=true
 ·rw [if_pos e1,e1]
  by_cases e2:t.Legs.length <= p.Classes.length
  ·rw [if_neg (by omega),forR_all (szL p t) (some false |>.getD false) (by omega) fun k hk=>?_]
   ·simp only [e2,decide_true,nO]
    cases allN (szL p t) t.Legs.length 0 <;> rfl
   ·have gl:=h.leg _ (wAW hk)
    have:=gl.loops;have:=gl.bouts
    rw [wAX hk,nA,wAQ (by omega) (by omega),wAQ (by omega) (by omega)]
    unfold szL
    by_cases c1:p.Laps < ((gd t.Legs k).Loops.length:Int)
    ·rw [if_pos c1];simp [c1]
    ·rw [if_neg c1]
     by_cases c2:k + 1 < t.Legs.length
     ·rw [if_pos (by omega)]
      by_cases c3:((gd t.Legs k).Loops.length:Int)=p.Laps
      ·rw [if_neg (by omega)]
       by_cases c4:(gd t.Legs k).Bouts.length=(gd t.Legs k).Loops.length - 1
       ·rw [if_pos (by omega)];simp [c1,c3,c4]
       ·rw [if_neg (by omega)];simp [c4]
      ·rw [if_pos (by omega)];simp [c2,c3]
     ·rw [if_neg (by omega)]
      by_cases c4:(gd t.Legs k).Bouts.length=(gd t.Legs k).Loops.length - 1
      ·rw [if_pos (by omega)];simp [c1,c2,c4]
      ·rw [if_neg (by omega)];simp [c4]
  ·rw [if_pos (by omega)];simp [e2]
 ·rw [if_neg e1]
  simp [e1]
theorem wMg {S R:Type} {x:Option R} {v:R} (h:x=some v):(esc x:Option (S ⊕ R))=some (.inr v):=by rw [h];rfl
theorem wDv {r:wAD} {i:Nat} (hi:i < r.Teams.length):idx (cv r).Teams (i:Int)=some (cvT (gd r.Teams i)):=by
 unfold cv
 rw [wAX (by simpa using hi),wEV _ hi]
theorem wEe {t:wAH} {i:Nat} (hi:i < t.Legs.length):idx (cvT t).Legs (i:Int)=some (cvL (gd t.Legs i)):=by
 unfold cvT
 rw [wAX (by simpa using hi),wEV _ hi]
theorem wFl (r:wAD):(cv r).Teams.length=r.Teams.length:=by simp [cv]
theorem wFm (t:wAH):(cvT t).Legs.length=t.Legs.length:=by simp [cvT]
def wIO (b:List Bool):Int:=if inB (b.length:Int) 5 8=true then (if (wFe b 0).isSome=true then 0 else 8) else 2
def lpB (l:wAN):Bool:=allN (fun k=>inB (gd l.Loops k) 1 9000) l.Loops.length 0
def wRQ (t:wAH):Bool:=inB t.Bib 1 999 && (wLp t.Classes && allN (fun k=>lpB (gd t.Legs k)) t.Legs.length 0)
def skB (t:wAH):Bool:=allN (fun k=>inB (gd t.Legs k).Skier 0 ((t.Classes.length:Int) - 1)) t.Legs.length 0
def shB (b:List Bool):Option Int:=if wIO b=0 then none else some (wIO b)
def shL (l:wAN):Option Int:=fnd (fun k=>shB (gd l.Bouts k)) l.Bouts.length 0
def shT (t:wAH):Option Int:=fnd (fun k=>shL (gd t.Legs k)) t.Legs.length 0
def twB (r:wAD) (i:Nat):Bool:=allN (fun k=>!decide ((gd r.Teams i).Bib=(gd r.Teams k).Bib)) i 0
def z5 (r:wAD):Int:=if allN (twB r) r.Teams.length 0=true then 0 else 5
def z4 (r:wAD):Int:=(fnd (fun i=>shT (gd r.Teams i)) r.Teams.length 0).getD (z5 r)
def z3 (r:wAD):Int:=if allN (fun i=>skB (gd r.Teams i)) r.Teams.length 0=true then z4 r else 1
def z2 (r:wAD):Int:=if inB r.Start 0 36000=true then (if allN (fun i=>wRQ (gd r.Teams i)) r.Teams.length 0=true then z3 r else 3) else 3
def wMh (r:wAD):Int:=if wNg r.Rules=0 then (if inB (r.Teams.length:Int) 1 12=true then (if allN (fun i=>sz r.Rules (gd r.Teams i)) r.Teams.length 0=true then z2 r else 2) else 2) else wNg r.Rules
theorem wKK {l:List Bool} {R:Type} (z:R) (K:Int->Option R):∀ (m k h:Nat),k + m=l.length->h <= 5 ->
  jn (forN (fun k27 (x26:Int)=>if x26=5 then esc (some z) else (idx l (↑k27:Int)).bind fun x56=>if x56=true then some (.inl (w64 (x26 + 1))) else some (.inl x26)) m k (h:Int)) K =
   (match wFe (l.drop k) h with | none=>some z | some m=>K (m:Int))
 | 0,k,h,hk,_=>by rw [kU (by omega)];rfl
 | m + 1,k,h,hk,h5=>by
  have hlt:k < l.length:=by omega
  rw [wIM hlt,wFe,forN]
  by_cases hz:h=5
  ·rw [if_pos (by omega),if_pos hz];rfl
  ·rw [if_neg (by omega),if_neg hz,wAX hlt,nA]
   by_cases hb:gd l k=true
   ·rw [if_pos hb,if_pos hb,wAQ (by omega) (by omega)]
    exact wKK (l:=l) z K m (k + 1) (h + 1) (by omega) (by omega)
   ·rw [if_neg hb,if_neg hb]
    exact wKK (l:=l) z K m (k + 1) h (by omega) h5
theorem wMi {b:List Bool} (hn:b.length <= 1000):∃ s,wBC b=some (s,wIO b)/\(wIO b=0->s=⟨(b.length:Int) - 5,5 - (wFZ b:Int),if wFZ b < 5 then 8 - (b.length:Int) else 0⟩):=by
 unfold wBC wIO
 rw [wHu,nA]
 by_cases h1:inB (b.length:Int) 5 8=true
 ·rw [h1,if_neg (by simp),if_pos rfl,wDo (by omega)]
  have hr:5 <= (b.length:Int)/\(b.length:Int) <= 8:=by unfold inB at h1;simpa using h1
  have:=wKK (l:=b) (R:=wAq × Int) ((⟨0,0,0⟩:wAq),8) (fun y74=>if y74 < 5 then
   some ((⟨w64 ((↑b.length:Int) - 5),w64 (5 - y74),w64 (8 - (↑b.length:Int))⟩:wAq),0)
  else
   some ((⟨w64 ((↑b.length:Int) - 5),w64 (5 - y74),0⟩:wAq),0)) b.length 0 0 (by omega) (by omega)
  rw [kV] at this
  rw [show ((0:Nat):Int)=0 from rfl] at this
  rw [this]
  cases hq:wFe b 0 with
  | none=>exact ⟨_,rfl,fun h=>by simp at h⟩
  | some m =>
   have h5:=(wHq b 0 m (by omega) hq).2
   have hN:wFZ b=m:=by unfold wFZ;rw [hq];rfl
   simp only [ka,if_true]
   rw [wAQ (x:=(b.length:Int) - 5) (by omega) (by omega),wAQ (x:=5 - (m:Int)) (by omega) (by omega),wAQ (x:=8 - (b.length:Int)) (by omega) (by omega),hN]
   by_cases h6:m < 5
   ·rw [if_pos (by omega)]
    exact ⟨_,rfl,fun _=>by rw [if_pos h6]⟩
   ·rw [if_neg (by omega)]
    exact ⟨_,rfl,fun _=>by rw [if_neg h6]⟩
 ·have h1:inB (b.length:Int) 5 8=false:=by simpa using h1
  rw [h1,if_pos (by rfl),if_neg (by simp)]
  exact ⟨_,rfl,fun h=>by simp at h⟩
theorem wOM {b:List Bool} (hn:b.length <= 1000):∃ s,wCr b=some (s,wIO b):=by
 unfold wCr wIO
 rw [wFk,nA]
 by_cases h1:inB (b.length:Int) 5 8=true
 ·rw [if_pos h1,if_pos h1,wDo (by omega)]
  have:=wHr (l:=b) (R:=wAa × Int) ((⟨0,0,0⟩:wAa),8) (fun y72=>if 0 < y72 then
   some ((⟨w64 ((↑b.length:Int) - 5),y72,w64 (8 - (↑b.length:Int))⟩:wAa),0)
  else
   some ((⟨w64 ((↑b.length:Int) - 5),y72,0⟩:wAa),0)) b.length 0 0 (by omega) (by omega)
  rw [kV] at this
  rw [show (5:Int) - ((0:Nat):Int)=5 from rfl] at this
  rw [this]
  cases hq:wFe b 0 with
  | none=>exact ⟨_,rfl⟩
  | some m =>
   simp only [ka,if_true]
   split
   ·exact ⟨_,rfl⟩
   ·exact ⟨_,rfl⟩
 ·rw [if_neg h1,if_neg h1]
  exact ⟨_,rfl⟩
theorem wKL (t:wAH):(cvT t).Classes=t.Classes:=rfl
theorem wKM (t:wAH):(cvT t).Bib=t.Bib:=rfl
theorem wFy (l:wAN):(cvL l).Loops=l.Loops:=rfl
theorem wFz (l:wAN):(cvL l).Bouts=l.Bouts:=rfl
theorem wHv (l:wAN):(cvL l).Skier=l.Skier:=rfl
theorem wPM (p:wAE):(cvR p).Laps=p.Laps:=rfl
theorem wON (p:wAE):(cvR p).Classes=p.Classes:=rfl
theorem wMj (r:wAD):(cv r).Rules=cvR r.Rules:=rfl
theorem wMk (r:wAD):(cv r).Start=r.Start:=rfl
theorem wLq (p:wAE) (t:wAH) (k:Nat):szL p t k=true ↔ (¬ p.Laps < ((gd t.Legs k).Loops.length:Int))/\(k + 1 < t.Legs.length->((gd t.Legs k).Loops.length:Int)=p.Laps)/\(gd t.Legs k).Bouts.length=(gd t.Legs k).Loops.length - 1:=by
 unfold szL
 simp only [nM,decide_eq_true_eq]
theorem wGA {r:wAD} (h:wGp r):wBH (cv r)=some (wMh r):=by
 unfold wBH wMh
 have hn:=h.n;have hc:=h.cls
 have hT:∀ i,i < r.Teams.length->wMf (gd r.Teams i):=fun i hi=>h.team _ (wAW hi)
 have hL:∀ i,i < r.Teams.length->∀ k,k < (gd r.Teams i).Legs.length->wOK (gd (gd r.Teams i).Legs k):=fun i hi k hk=>(hT i hi).leg _ (wAW hk)
 rw [wMj,wPL (by omega),nA,wMk]
 by_cases e0:wNg r.Rules=0
 ·rw [if_pos e0,if_pos e0,wFl,wHu,nA]
  by_cases e1:inB (r.Teams.length:Int) 1 12=true
  ·rw [e1,if_neg (by simp),if_pos rfl,iter_all (n:=r.Teams.length) (z:=z2 r) (fun i=>sz r.Rules (gd r.Teams i)) 2 (by omega) (fun i hi=>?_) ?_]
   ·rw [if_neg (by omega)]
    refine wMg ?_
    rw [wHu,nA]
    unfold z2
    by_cases e2:inB r.Start 0 36000=true
    ·rw [e2,if_neg (by simp),if_pos rfl,iter_all (n:=r.Teams.length) (z:=z3 r) (fun i=>wRQ (gd r.Teams i)) 3 (by omega) (fun i hi=>?_) ?_]
     ·rw [if_neg (by omega)]
      refine wMg ?_
      unfold z3
      rw [iter_all (n:=r.Teams.length) (z:=z4 r) (fun i=>skB (gd r.Teams i)) 1 (by omega) (fun i hi=>?_) ?_]
      ·rw [if_neg (by omega)]
       refine wMg ?_
       unfold z4
       rw [iter_fnd (n:=r.Teams.length) (z:=z5 r) (fun i=>shT (gd r.Teams i)) (by omega) (fun i hi=>?_) ?_]
       ·rw [if_neg (by omega)]
        refine wMg ?_
        unfold z5
        rw [iter_all (n:=r.Teams.length) (z:=0) (twB r) 5 (by omega) (fun i hi=>?_) ?_]
        ·rw [if_neg (by omega)]
         rfl
        ·rw [if_pos (by omega),forR_all (B:=Int ⊕ Int) (n:=i) (fun k=>!decide ((gd r.Teams i).Bib=(gd r.Teams k).Bib)) (.inr 5) (by omega) fun k hk=>?_]
         ·unfold twB
          rw [wAQ (x:=(i:Int) + 1) (by omega) (by omega)]
          split <;> rfl
         ·rw [wDv hi,nA,wDv (by omega),nA,wKM,wKM]
          by_cases e5:(gd r.Teams i).Bib=(gd r.Teams k).Bib
          ·rw [if_pos e5];simp [e5]
          ·rw [if_neg e5];simp [e5]
       ·have ht:=hT i hi
        have h1:=ht.legs
        rw [if_pos (by omega),iter_fnd (B:=Int ⊕ Int) (z:=.inl ((i:Int) + 1)) (fun k=>(shL (gd (gd r.Teams i).Legs k)).map .inr) (n:=(gd r.Teams i).Legs.length) (by omega) (fun k hk=>?_) ?_,wIN]
        ·unfold shT
         cases fnd (fun k=>shL (gd (gd r.Teams i).Legs k)) (gd r.Teams i).Legs.length 0 <;> rfl
        ·rw [wDv hi,nA,wFm,if_neg (by omega),wAQ (x:=(i:Int) + 1) (by omega) (by omega)]
         rfl
        ·have hl:=hL i hi k hk
         have g2:=hl.bouts
         rw [wDv hi,nA,wFm,if_pos (by omega),iter_fnd (B:=Int ⊕ (Int ⊕ Int)) (z:=.inl ((k:Int) + 1)) (fun j=>(shB (gd (gd (gd r.Teams i).Legs k).Bouts j)).map fun c=>.inr (.inr c)) (n:=(gd (gd r.Teams i).Legs k).Bouts.length) (by omega) (fun j hj=>?_) ?_,wIN]
         ·unfold shL
          cases fnd (fun j=>shB (gd (gd (gd r.Teams i).Legs k).Bouts j)) (gd (gd r.Teams i).Legs k).Bouts.length 0 <;> rfl
         ·rw [wEe hk,nA,wFz,if_neg (by omega),wAQ (x:=(k:Int) + 1) (by omega) (by omega)]
          rfl
         ·have g3:=hl.bout _ (wAW hj)
          obtain ⟨s,e3,_⟩:=wMi (b:=gd (gd (gd r.Teams i).Legs k).Bouts j) (by omega)
          rw [wEe hk,nA,wFz,if_pos (by omega),wAX hj,nA,e3,nA]
          simp only
          unfold shB
          by_cases e4:wIO (gd (gd (gd r.Teams i).Legs k).Bouts j)=0
          ·rw [if_pos e4,if_pos e4,wAQ (x:=(j:Int) + 1) (by omega) (by omega)]
           rfl
          ·rw [if_neg e4,if_neg e4]
           rfl
      ·have ht:=hT i hi
       have h1:=ht.legs;have h2:=ht.cls
       rw [if_pos (by omega),iter_all (B:=Int ⊕ Int) (z:=.inl ((i:Int) + 1)) (fun k=>inB (gd (gd r.Teams i).Legs k).Skier 0 (((gd r.Teams i).Classes.length:Int) - 1)) (.inr 1) (n:=(gd r.Teams i).Legs.length) (by omega) (fun k hk=>?_) ?_]
       ·unfold skB
        split <;> rfl
       ·rw [wDv hi,nA,wFm,if_neg (by omega),wAQ (x:=(i:Int) + 1) (by omega) (by omega)]
        rfl
       ·rw [wDv hi,nA,wFm,if_pos (by omega),wEe hk,nA,wKL,wHv,wAQ (x:=((gd r.Teams i).Classes.length:Int) - 1) (by omega) (by omega),wHu,nA,wAQ (x:=(k:Int) + 1) (by omega) (by omega)]
        cases inB (gd (gd r.Teams i).Legs k).Skier 0 (((gd r.Teams i).Classes.length:Int) - 1) <;> rfl
     ·have ht:=hT i hi
      have h1:=ht.legs;have h2:=ht.cls
      rw [if_pos (by omega),wDv hi,nA,wKM,wHu,nA,wKL,wPx (by omega),nA,wFm]
      unfold wRQ
      cases inB (gd r.Teams i).Bib 1 999 <;> cases wLp (gd r.Teams i).Classes <;> simp only [Bool.not_true,Bool.not_false,nO,kD,if_true,if_false,nl,wMT]
      rw [iter_all (B:=Int ⊕ Int) (n:=(gd r.Teams i).Legs.length) (z:=.inl ((i:Int) + 1)) (fun k=>lpB (gd (gd r.Teams i).Legs k)) (.inr 3) (by omega) (fun k hk=>?_) ?_]
      ·rw [if_neg (by omega),wAQ (x:=(i:Int) + 1) (by omega) (by omega)]
      ·have g1:=(hL i hi k hk).loops
       rw [if_pos (by omega),iter_all (B:=Int ⊕ (Int ⊕ Int)) (z:=.inl ((k:Int) + 1)) (fun j=>inB (gd (gd (gd r.Teams i).Legs k).Loops j) 1 9000) (.inr (.inr 3)) (n:=(gd (gd r.Teams i).Legs k).Loops.length) (by omega) (fun j hj=>?_) ?_]
       ·unfold lpB
        split <;> rfl
       ·rw [wEe hk,nA,wFy,if_neg (by omega),wAQ (x:=(k:Int) + 1) (by omega) (by omega)]
       ·rw [wEe hk,nA,wFy,if_pos (by omega),wAX hj,nA,wHu,nA,wAQ (x:=(j:Int) + 1) (by omega) (by omega)]
        cases inB (gd (gd (gd r.Teams i).Legs k).Loops j) 1 9000 <;> rfl
    ·have e2:inB r.Start 0 36000=false:=by simpa using e2
     rw [e2,if_pos (by rfl),if_neg (by simp)]
   ·have ht:=hT i hi
    have h1:=ht.legs
    rw [if_pos (by omega),wDv hi,nA,wKL,wHu,nA,wFm,wON,wPM]
    unfold sz
    by_cases c1:inB ((gd r.Teams i).Classes.length:Int) 1 8=true
    ·rw [c1,if_neg (by simp)]
     by_cases c2:(gd r.Teams i).Legs.length <= r.Rules.Classes.length
     ·rw [if_neg (by omega),iter_all (B:=Int ⊕ Int) (n:=(gd r.Teams i).Legs.length) (z:=.inl ((i:Int) + 1)) (szL r.Rules (gd r.Teams i)) (.inr 2) (by omega) (fun k hk=>?_) ?_]
      ·simp only [c2,decide_true,nO]
      ·rw [if_neg (by omega),wAQ (x:=(i:Int) + 1) (by omega) (by omega)]
       rfl
      ·have hl:=hL i hi k hk
       have g1:=hl.loops;have g2:=hl.bouts
       have hz:=wLq r.Rules (gd r.Teams i) k
       rw [if_pos (by omega),wEe hk,nA,wFy,wFz,wAQ (x:=(k:Int) + 1) (by omega) (by omega),wAQ (x:=((gd (gd r.Teams i).Legs k).Loops.length:Int) - 1) (by omega) (by omega)]
       by_cases d1:(gd (gd r.Teams i).Legs k).Loops.length=0 <;> by_cases d2:r.Rules.Laps < ((gd (gd r.Teams i).Legs k).Loops.length:Int) <;> by_cases d3:k + 1 < (gd r.Teams i).Legs.length <;> by_cases d4:((gd (gd r.Teams i).Legs k).Loops.length:Int)=r.Rules.Laps <;> by_cases d5:(gd (gd r.Teams i).Legs k).Bouts.length=(gd (gd r.Teams i).Legs k).Loops.length - 1 <;>
       first
       | (exfalso;omega)
       | (rw [if_pos (hz.2 (by omega))];(repeat (first | rw [if_pos (by omega)] | rw [if_neg (by omega)])))
       | (rw [if_neg (c:=szL r.Rules (gd r.Teams i) k=true) (fun q=>by have:=hz.1 q;omega)];(repeat (first | rw [if_pos (by omega)] | rw [if_neg (by omega)]));done)
       | (rw [if_neg (c:=szL r.Rules (gd r.Teams i) k=true) (fun q=>by have:=hz.1 q;omega)];(repeat (first | rw [if_pos (by omega)] | rw [if_neg (by omega)]));rfl)
     ·rw [if_pos (by omega)]
      simp [c2]
    ·have c1:inB ((gd r.Teams i).Classes.length:Int) 1 8=false:=by simpa using c1
     rw [c1,if_pos (by rfl)]
     rfl
  ·have e1:inB (r.Teams.length:Int) 1 12=false:=by simpa using e1
   rw [e1,if_pos (by rfl),if_neg (by simp)]
 ·rw [if_neg e0,if_neg e0]
theorem wKx {l:List wAH} {f:wAH->Option Bool} {p:wAH->Bool} (hf:∀ a ∈ l,f a=some (p a)) (hn:l.length <= 9223372036854775807):wAz l f=some (l.all p):=by
 unfold wAz wAk wAp wBA
 have:=wGt (R:=Int) (l:=l) (f:=fun x=>(f x).bind fun x5=>some (!x5)) (p:=fun a=>!p a) (fun a ha=>by rw [hf a ha];rfl) hn id
 simp only [id] at this
 rw [this]
 simp only [nA,wGo]
 congr 1
 clear this hn hf
 induction l with
 | nil=>rfl
 | cons a l ih=>rw [kG,np,<- ih];cases p a <;> simp
theorem wMl (a b:Nat->Bool):∀ m k,allN (fun i=>a i && b i) m k=(allN a m k && allN b m k)
 | 0,_=>rfl
 | m + 1,k=>by
  rw [allN,allN,allN,wMl a b m (k + 1)]
  cases a k <;> cases b k <;> simp
theorem wKN {E:Type} {f:Unit->(wAH × wAN)->Option (Unit ⊕ E)} {r:wAD} (g:wAH->wAN->Option E) (h:wGp r) (hf:∀ t,wMf t->∀ l,wOK l->f () (t,l)=some (out () (g t l))) :
  wBN f () r=some (out () (fnd (fun i=>fnd (fun j=>g (gd r.Teams i) (gd (gd r.Teams i).Legs j)) (gd r.Teams i).Legs.length 0) r.Teams.length 0)):=by
 unfold wBN
 have hn:=h.n
 rw [forR_fnd (B:=Unit ⊕ E) (fun i=>(fnd (fun j=>g (gd r.Teams i) (gd (gd r.Teams i).Legs j)) (gd r.Teams i).Legs.length 0).map .inr) (by omega) fun i hi=>?_,wIN]
 ·cases fnd (fun i=>fnd (fun j=>g (gd r.Teams i) (gd (gd r.Teams i).Legs j)) (gd r.Teams i).Legs.length 0) r.Teams.length 0 <;> rfl
 ·have ht:=h.team _ (wAW hi)
  have h1:=ht.legs
  rw [wAX hi,nA,forR_fnd (B:=Unit ⊕ (Unit ⊕ E)) (fun j=>(g (gd r.Teams i) (gd (gd r.Teams i).Legs j)).map fun e=>.inr (.inr e)) (by omega) fun j hj=>?_,wIN]
  ·cases fnd (fun j=>g (gd r.Teams i) (gd (gd r.Teams i).Legs j)) (gd r.Teams i).Legs.length 0 <;> rfl
  ·rw [wAX hj,nA,hf _ ht _ (ht.leg _ (wAW hj)),nA]
   cases g (gd r.Teams i) (gd (gd r.Teams i).Legs j) <;> rfl
theorem wJT (x:Int) (v:Bool):∀ l:List (Int × Bool),(wFf l x v).map (·.1)=if x ∈ l.map (·.1) then l.map (·.1) else l.map (·.1) ++ [x]
 | []=>by simp [wFf]
 | (y,u) :: l=>by
  rw [wFf]
  by_cases e:x=y
  ·subst e
   simp
  ·rw [if_neg e,kH,wJT x v l]
   by_cases m:x ∈ l.map (·.1)
   ·rw [if_pos m,if_pos (by simp only [kH,nq];exact .inr m)]
    rfl
   ·rw [if_neg m,if_neg (by simp only [kH,nq];exact fun h=>h.elim e m)]
    rfl
def mk (r:wAD):Nat->List (Int × Bool)
 | 0=>[]
 | k + 1=>wFf (mk r k) (gd r.Teams k).Bib true
theorem wOO (r:wAD) (b:Int):∀ k,b ∈ (mk r k).map (·.1) ↔ ∃ j,j < k/\(gd r.Teams j).Bib=b
 | 0=>by simp [mk]
 | k + 1=>by
  have ih:=wOO r b k
  rw [mk,wJT]
  constructor
  ·intro h
   split at h
   ·obtain ⟨j,h1,h2⟩:=ih.1 h
    exact ⟨j,by omega,h2⟩
   ·rcases nS.1 h with h | h
    ·obtain ⟨j,h1,h2⟩:=ih.1 h
     exact ⟨j,by omega,h2⟩
    ·exact ⟨k,by omega,(nQ.1 h).symm⟩
  ·rintro ⟨j,h1,h2⟩
   by_cases e:j=k
   ·subst e
    subst h2
    split
    ·assumption
    ·simp
   ·have:=ih.2 ⟨j,by omega,h2⟩
    split
    ·exact this
    ·exact nS.2 (.inl this)
theorem wPy (r:wAD):∀ k,(mk r k).length <= k/\((mk r k).length=k ↔ ∀ i,i < k->twB r i=true)
 | 0=>⟨kE _,⟨fun _ i h=>by omega,fun _=>rfl⟩⟩
 | k + 1=>by
  obtain ⟨h1,h2⟩:=wPy r k
  have hk:=wJT (gd r.Teams k).Bib true (mk r k)
  have hl:(mk r (k + 1)).length=((wFf (mk r k) (gd r.Teams k).Bib true).map (·.1)).length:=by rw [nI];rfl
  have ht:twB r k=true ↔ ¬ (gd r.Teams k).Bib ∈ (mk r k).map (·.1):=by
   rw [wOO]
   unfold twB
   rw [allN_iff]
   constructor
   ·rintro h ⟨j,h3,h4⟩
    have:=h j (by omega) (by omega)
    rw [h4] at this
    simp at this
   ·intro h i _ hi
    simp only [nR,decide_eq_false_iff_not]
    exact fun e=>h ⟨i,by omega,e.symm⟩
  rw [hl,hk]
  by_cases m:(gd r.Teams k).Bib ∈ (mk r k).map (·.1)
  ·rw [if_pos m,nI]
   refine ⟨by omega,fun h=>by omega,fun h=>?_⟩
   exact absurd m (ht.1 (h k (by omega)))
  ·rw [if_neg m,nY,nI,List.length_singleton]
   refine ⟨by omega,fun h i hi=>?_,fun h=>?_⟩
   ·by_cases e:i=k
    ·exact e ▸ ht.2 m
    ·exact h2.1 (by omega) i (by omega)
   ·have:=h2.2 fun i hi=>h i (by omega)
    omega
theorem wIP {r:wAD} (h:wGp r):wDI r=some (wMh r):=by
 unfold wDI wMh
 have hn:=h.n;have hc:=h.cls
 rw [wOL (by omega),nA]
 by_cases e0:wNg r.Rules=0
 ·rw [if_pos e0,if_pos e0,wFk,nA]
  by_cases e1:inB (r.Teams.length:Int) 1 12=true
  ·rw [if_pos e1,if_pos e1,wKx (p:=sz r.Rules) (fun t ht=>wQW (h.team t ht)) (by omega),nA,all_allN]
   by_cases e2:allN (fun i=>sz r.Rules (gd r.Teams i)) r.Teams.length 0=true
   ·rw [if_pos e2,if_pos e2,wFk,nA]
    unfold z2
    by_cases e3:inB r.Start 0 36000=true
    ·rw [if_pos e3,if_pos e3,wKx (p:=fun t=>inB t.Bib 1 999 && wLp t.Classes) (fun t ht=>by
      have:=(h.team t ht).cls
      unfold wDQ
      rw [wFk,nA,wJv (by omega),nA]
      cases inB t.Bib 1 999 <;> rfl) (by omega),nA,all_allN]
     have hb:allN (fun i=>wRQ (gd r.Teams i)) r.Teams.length 0=(allN (fun i=>inB (gd r.Teams i).Bib 1 999 && wLp (gd r.Teams i).Classes) r.Teams.length 0 && allN (fun i=>allN (fun j=>lpB (gd (gd r.Teams i).Legs j)) (gd r.Teams i).Legs.length 0) r.Teams.length 0):=by
      rw [<- wMl]
      exact wJu _ _ fun i _ _=>by unfold wRQ;rw [Bool.and_assoc]
     rw [hb]
     by_cases e4:allN (fun i=>inB (gd r.Teams i).Bib 1 999 && wLp (gd r.Teams i).Classes) r.Teams.length 0=true
     ·rw [if_pos e4,e4,nO]
      unfold wCn
      rw [nA,wKN (fun _ l=>if lpB l=true then none else some (3:Int)) h fun t ht l hl=>?_,nA]
      ·simp only [fnd_if]
       by_cases e5:allN (fun i=>allN (fun j=>lpB (gd (gd r.Teams i).Legs j)) (gd r.Teams i).Legs.length 0) r.Teams.length 0=true
       ·rw [if_pos e5,if_pos e5]
        simp only [out,nA]
        rw [wKN (fun t l=>if inB l.Skier 0 ((t.Classes.length:Int) - 1)=true then none else some (1:Int)) h fun t ht l hl=>?_,nA]
        ·simp only [fnd_if]
         unfold z3
         by_cases e6:allN (fun i=>skB (gd r.Teams i)) r.Teams.length 0=true
         ·have e6':=e6
          unfold skB at e6'
          rw [if_pos e6',if_pos e6]
          simp only [out,nA]
          rw [wKN (fun _ l=>shL l) h fun t ht l hl=>?_,nA]
          ·unfold z4
           have hs:fnd (fun i=>fnd (fun j=>shL (gd (gd r.Teams i).Legs j)) (gd r.Teams i).Legs.length 0) r.Teams.length 0=fnd (fun i=>shT (gd r.Teams i)) r.Teams.length 0:=rfl
           rw [hs]
           cases fnd (fun i=>shT (gd r.Teams i)) r.Teams.length 0 with
           | some c=>rfl
           | none =>
            simp only [out,nj]
            have:=wBs (S:=List (Int × Bool)) (n:=r.Teams.length) (body:=fun k640 l637=>(idx r.Teams (↑k640:Int)).bind fun x664=>some (wFf l637 x664.Bib true)) (mk r) (s0:=[]) rfl (by omega) fun k hk=>by
             rw [wAX hk,nA]
             rfl
            rw [this,nA]
            obtain ⟨l1,l2⟩:=wPy r r.Teams.length
            unfold z5
            have hw:allN (twB r) r.Teams.length 0=true ↔ ∀ i,i < r.Teams.length->twB r i=true:=by
             rw [allN_iff]
             exact ⟨fun q i hi=>q i (by omega) (by omega),fun q i _ hi=>q i (by omega)⟩
            by_cases e7:allN (twB r) r.Teams.length 0=true
            ·have:=l2.2 (hw.1 e7)
             rw [if_pos e7,if_neg (by omega)]
            ·have:¬ (mk r r.Teams.length).length=r.Teams.length:=fun q=>e7 (hw.2 (l2.1 q))
             rw [if_neg e7,if_pos (by omega)]
          ·have g2:=hl.bouts
           simp only
           rw [forR_fnd (B:=Unit ⊕ Int) (fun j=>(shB (gd l.Bouts j)).map .inr) (by omega) fun j hj=>?_,wIN]
           ·unfold shL
            cases fnd (fun j=>shB (gd l.Bouts j)) l.Bouts.length 0 <;> rfl
           ·have g3:=hl.bout _ (wAW hj)
            obtain ⟨s,e8⟩:=wOM (b:=gd l.Bouts j) (by omega)
            rw [wAX hj,nA,e8,nA]
            simp only
            unfold shB
            by_cases e9:wIO (gd l.Bouts j)=0
            ·rw [if_pos e9,if_pos e9];rfl
            ·rw [if_neg e9,if_neg e9];rfl
         ·have e6':=e6
          unfold skB at e6'
          rw [if_neg e6',if_neg e6]
          rfl
        ·have:=ht.cls
         simp only
         rw [wAQ (by omega) (by omega),wFk,nA]
         cases inB l.Skier 0 ((t.Classes.length:Int) - 1) <;> rfl
       ·rw [if_neg e5,if_neg e5]
        rfl
      ·have g1:=hl.loops
       simp only
       rw [wJS (f:=wCU) (p:=fun n=>inB n 1 9000) (fun a=>by unfold wCU;rw [wFk];rfl) (by omega),nA,all_allN]
       unfold lpB
       cases allN (fun k=>inB (gd l.Loops k) 1 9000) l.Loops.length 0 <;> rfl
     ·have e4':allN (fun i=>inB (gd r.Teams i).Bib 1 999 && wLp (gd r.Teams i).Classes) r.Teams.length 0=false:=by simpa using e4
      rw [e4',kD,if_neg (by simp),if_neg (by simp)]
    ·rw [if_neg e3,if_neg e3]
   ·rw [if_neg e2,if_neg e2]
  ·rw [if_neg e1,if_neg e1]
 ·rw [if_neg e0,if_neg e0]
theorem wFn {n lo hi:Int}:inB n lo hi=true ↔ lo <= n/\n <= hi:=by unfold inB;simp
theorem wIt {B:Type} (f:Nat->Option B):∀ m k,fnd f m k=none ↔ ∀ i,k <= i->i < k + m->f i=none
 | 0,k=>⟨fun _ i h1 h2=>by omega,fun _=>rfl⟩
 | m + 1,k=>by
  rw [fnd]
  cases h:f k with
  | some c=>exact ⟨fun q=>(by cases q),fun q=>(by rw [q k (by omega) (by omega)] at h;cases h)⟩
  | none =>
   simp only
   rw [wIt f m (k + 1)]
   constructor
   ·intro q i h1 h2
    by_cases e:i=k
    ·exact e ▸ h
    ·exact q i (by omega) (by omega)
   ·exact fun q i h1 h2=>q i (by omega) (by omega)
theorem wJU {α:Type} [Inhabited α] {l:List α} {a:α} (h:a ∈ l):∃ k,k < l.length/\gd l k=a:=by
 obtain ⟨k,hk,e⟩:=nH h
 exact ⟨k,hk,by rw [wCv hk];exact e⟩
theorem wMm {l:List Int}:wLp l=true ↔ ∀ c ∈ l,0 <= c/\c <= 3:=by
 unfold wLp
 rw [nX]
 exact ⟨fun h c hc=>wFn.1 (h c hc),fun h c hc=>wFn.2 (h c hc)⟩
theorem wRs {b:List Bool} (h:shB b=none):okB b:=by
 unfold shB at h
 by_cases e:wIO b=0
 ·unfold wIO at e
  by_cases h1:inB (b.length:Int) 5 8=true
  ·rw [if_pos h1] at e
   have:=wFn.1 h1
   by_cases h2:(wFe b 0).isSome=true
   ·obtain ⟨m,hm⟩:=Option.isSome_iff_exists.1 h2
    exact ⟨by omega,by omega,m,hm⟩
   ·rw [if_neg h2] at e
    omega
  ·rw [if_neg h1] at e
   omega
 ·rw [if_neg e] at h
  cases h
theorem wPN {p:wAE} (h:wNg p=0):wEg p:=by
 unfold wNg at h
 by_cases h1:inB (p.Classes.length:Int) 1 4=true
 ·rw [if_pos h1] at h
  by_cases h2:(wLp p.Classes && (inB p.Each 1 4 && (inB p.Laps 1 5 && (inB p.Spare 0 600 && (inB p.Loop 0 600 && inB p.Unused 0 6000)))))=true
  ·simp only [nM,wFn,wMm] at h2
   have:=wFn.1 h1
   exact ⟨by omega,h2.1,h2.2.1,h2.2.2.1,h2.2.2.2.1,h2.2.2.2.2.1,h2.2.2.2.2.2⟩
  ·rw [if_neg h2] at h
   omega
 ·rw [if_neg h1] at h
  omega
theorem wRR {p:Prop} [Decidable p] {a b:Int} (h:(if p then a else b)=0) (hb:b ≠ 0):p/\a=0:=by
 by_cases c:p
 ·rw [if_pos c] at h
  exact ⟨c,h⟩
 ·rw [if_neg c] at h
  exact absurd h hb
theorem wLr {r:wAD} (h:wMh r=0):wGO r:=by
 unfold wMh at h
 have h0:wNg r.Rules=0:=by
  by_cases c:wNg r.Rules=0
  ·exact c
  ·rw [if_neg c] at h
   exact h
 rw [if_pos h0] at h
 have gp:=wPN h0
 obtain ⟨h1,h⟩:=wRR h (by omega)
 obtain ⟨h2,h⟩:=wRR h (by omega)
 unfold z2 at h
 obtain ⟨h3,h⟩:=wRR h (by omega)
 obtain ⟨h4,h⟩:=wRR h (by omega)
 unfold z3 at h
 obtain ⟨h5,h⟩:=wRR h (by omega)
 unfold z4 at h
 have h6:fnd (fun i=>shT (gd r.Teams i)) r.Teams.length 0=none:=by
  cases q:fnd (fun i=>shT (gd r.Teams i)) r.Teams.length 0 with
  | none=>rfl
  | some c =>
   rw [q] at h
   simp only [Option.getD_some] at h
   subst h
   have key:∀ {B:Type} (f:Nat->Option B) (m k:Nat) (c:B),fnd f m k=some c->∃ i,f i=some c:=by
    intro B f m
    induction m with
    | zero=>intro k c q;cases q
    | succ m ih =>
     intro k c q
     rw [fnd] at q
     cases e:f k with
     | none=>rw [e] at q;exact ih _ _ q
     | some d=>rw [e] at q;exact ⟨k,by rw [e];exact q⟩
   obtain ⟨i,q1⟩:=key _ _ _ _ q
   obtain ⟨k,q2⟩:=key _ _ _ _ q1
   obtain ⟨j,q3⟩:=key _ _ _ _ q2
   unfold shB at q3
   split at q3
   ·cases q3
   ·rename_i q4
    exact absurd (nW q3) q4
 rw [h6,nj] at h
 unfold z5 at h
 obtain ⟨h7,_⟩:=wRR h (by omega)
 have i1:=wFn.1 h1
 rw [allN_iff] at h2 h4 h5 h7
 rw [wIt] at h6
 refine ⟨gp,by omega,wFn.1 h3,fun t ht=>?_,?_⟩
 ·obtain ⟨i,hi,rfl⟩:=wJU ht
  have a2:=h2 i (by omega) (by omega)
  have a4:=h4 i (by omega) (by omega)
  have a5:=h5 i (by omega) (by omega)
  have a6:=h6 i (by omega) (by omega)
  unfold sz at a2
  unfold wRQ at a4
  unfold skB at a5
  unfold shT at a6
  simp only [nM,allN_iff,wFn,wMm,decide_eq_true_eq] at a2 a4 a5
  rw [wIt] at a6
  obtain ⟨b1,b2,b3⟩:=a2
  refine ⟨a4.1,by omega,a4.2.1,b2,fun k hk=>((wLq _ _ _).1 (b3 k (by omega) (by omega))).2.1 hk,fun l hl=>?_⟩
  obtain ⟨k,hk,rfl⟩:=wJU hl
  have c3:=(wLq _ _ _).1 (b3 k (by omega) (by omega))
  have c4:=a4.2.2 k (by omega) (by omega)
  have c6:=a6 k (by omega) (by omega)
  unfold lpB at c4
  unfold shL at c6
  simp only [allN_iff,wFn] at c4
  rw [wIt] at c6
  have c5:=a5 k (by omega) (by omega)
  refine ⟨by omega,c3.2.2,fun n hn=>?_,by omega,fun b hb=>?_⟩
  ·obtain ⟨j,hj,rfl⟩:=wJU hn
   exact c4 j (by omega) (by omega)
  ·obtain ⟨j,hj,rfl⟩:=wJU hb
   exact wRs (c6 j (by omega) (by omega))
 ·rw [List.Nodup,nD]
  intro i j hi hj hij
  simp only [nI] at hi hj
  have:=h7 j (by omega) (by omega)
  unfold twB at this
  rw [allN_iff] at this
  have:=this i (by omega) (by omega)
  simp only [nR,decide_eq_false_iff_not] at this
  rw [nJ,nJ,<- wCv hi,<- wCv hj]
  exact fun e=>this e.symm
theorem wMn {b:List Bool} (h:okB b):wIO b=0:=by
 obtain ⟨h1,h2,m,hm⟩:=h
 unfold wIO
 rw [if_pos (wFn.2 ⟨by omega,by omega⟩),hm]
 rfl
theorem wJV {b:List Bool} (h:okB b):wBC b=some (⟨(b.length:Int) - 5,5 - (wFZ b:Int),if wFZ b < 5 then 8 - (b.length:Int) else 0⟩,0):=by
 obtain ⟨s,h1,h2⟩:=wMi (b:=b) (by have:=h.2.1;omega)
 rw [h1,h2 (wMn h),wMn h]
theorem wMo {r:wAD} (gp:wEg r.Rules) {t:wAH} {l:wAN} (g:wHs r.Rules t l) {x:Int} (hx:0 <= x/\x <= 1000000) {m:Nat} (hm:m <= l.Loops.length) :
  wCE 0 (m:Int) (fun k80 x79 =>
    (idx (cvL l).Loops (↑k80:Int)).bind fun x106 =>
    if 0 < (↑k80:Int) then
     (idx (cvL l).Bouts (w64 ((↑k80:Int) - 1))).bind fun x116 =>
     (wBC x116).bind fun (x129,_) =>
     some (w64 ((w64 ((w64 (x79 + x106)) + (w64 (x129.Spares * (cv r).Rules.Spare)))) + (w64 (x129.Loops * (cv r).Rules.Loop))))
    else
     some (w64 (x79 + x106))) x=some (tAt r.Rules l x m):=by
 have h3:=g.le;have h4:=gp.laps;have hb:=g.bouts
 refine wBs (fun k=>tAt r.Rules l x k) rfl (by omega) fun k hk=>?_
 have h1:=g.loops _ (wAW (k:=k) (by omega))
 have h2:=wHt gp g x k (by omega)
 rw [wFy,wAX (by omega),nA,tAt]
 by_cases c:0 < k
 ·have ho:=g.ok _ (wAW (k:=k - 1) (by omega))
  have hq:=wKJ gp ho
  rw [if_pos (by omega),if_pos c,wFz,wAQ (x:=(k:Int) - 1) (by omega) (by omega),show (k:Int) - 1=((k - 1:Nat):Int) by omega,wAX (by omega),nA,wJV ho,nA]
  simp only
  rw [show (cv r).Rules.Spare=r.Rules.Spare from rfl,show (cv r).Rules.Loop=r.Rules.Loop from rfl]
  unfold bc
  rw [wAQ (x:=tAt r.Rules l x k + gd l.Loops k) (by omega) (by omega),wAQ (x:=(((gd l.Bouts (k - 1)).length:Int) - 5) * r.Rules.Spare) (by omega) (by omega),wAQ (x:=(5 - (wFZ (gd l.Bouts (k - 1)):Int)) * r.Rules.Loop) (by omega) (by omega),wAQ (x:=tAt r.Rules l x k + gd l.Loops k + (((gd l.Bouts (k - 1)).length:Int) - 5) * r.Rules.Spare) (by omega) (by omega),wAQ (by omega) (by omega)]
  congr 1
  omega
 ·rw [if_neg (by omega),if_neg c,wAQ (by omega) (by omega)]
  congr 1
  omega
theorem wNQ {p:wAE} (a:wAN) (l:List wAN) (x:Int):wFB p (l ++ [a]) x=wMc p a (wFB p l x):=(wFE p a l x).2
theorem wKy {r:wAD} (g:wGO r) {i:Nat} (hi:i < r.Teams.length) {k:Nat} (hk:k < (gd r.Teams i).Legs.length) {m:Nat} (hm:m <= (gd (gd r.Teams i).Legs k).Loops.length) :
  wCf (cv r) (i:Int) (k:Int) (m:Int)=some (tAt r.Rules (gd (gd r.Teams i).Legs k) (wFB r.Rules ((gd r.Teams i).Legs.take k) r.Start) m):=by
 unfold wCf
 have gt:=g.team _ (wAW hi)
 have hs:=g.start;have hl:=gt.legs;have hc:=g.rules.n
 have hr:∀ j,j <= (gd r.Teams i).Legs.length->0 <= wFB r.Rules ((gd r.Teams i).Legs.take j) r.Start/\wFB r.Rules ((gd r.Teams i).Legs.take j) r.Start <= 1000000:=fun j hj=>by
  have:=wHU g.rules ((gd r.Teams i).Legs.take j) r.Start fun a ha=>gt.leg a (nV ha)
  rw [nT] at this
  omega
 rw [show (k:Int) + 1=((k + 1:Nat):Int) by omega,wMk,wBs (fun j=>if j <= k then wFB r.Rules ((gd r.Teams i).Legs.take j) r.Start else tAt r.Rules (gd (gd r.Teams i).Legs k) (wFB r.Rules ((gd r.Teams i).Legs.take k) r.Start) m) (s0:=r.Start) ?_ (by omega) fun j hj=>?_]
 ·rw [nA,if_neg (by omega)]
 ·rw [if_pos (by omega)]
  rfl
 ·rw [wDv hi,nA,wEe (by omega),nA]
  have gl:=gt.leg _ (wAW (k:=j) (by omega))
  by_cases c:j=k
  ·subst c
   rw [if_pos (c:=(j:Int)=(j:Int)) rfl,if_pos (c:=j <= j) (by omega),wMo g.rules gl (hr j (by omega)) hm,nA,if_neg (c:=j + 1 <= j) (by omega)]
  ·rw [if_neg (c:=(j:Int)=(k:Int)) (by omega),if_pos (c:=j <= k) (by omega),if_pos (c:=j + 1 <= k) (by omega),show ((cvL (gd (gd r.Teams i).Legs j)).Loops.length:Int)=((gd (gd r.Teams i).Legs j).Loops.length:Int) from rfl,wMo g.rules gl (hr j (by omega)) (kE _),nA,wBo (by omega),wNQ]
   rfl
theorem wKz {r:wAD} (g:wGO r) (hc0:wBH (cv r)=some 0):wBd (cv r)=some (⟨(wDV r).Laps,(wDV r).Bibs,(wDV r).Times⟩,0):=by
 unfold wBd
 have hn:=g.n;have hc:=g.rules.n;have hlap:=g.rules.laps
 rw [hc0,nA,if_pos rfl,wFl]
 refine wGP (m:=r.Teams.length) (fun i=>((r.Teams.take i).map (·.Bib),(r.Teams.take i).map fun t=>wEf r.Rules t.Legs r.Start,(i:Int))) (fun i hi=>?_) ?_ rfl (by omega)
 ·have gt:=g.team _ (wAW hi)
  have hl:=gt.legs
  simp only
  rw [if_pos (by omega)]
  refine wGP (m:=(gd r.Teams i).Legs.length) (fun k=>(wEf r.Rules ((gd r.Teams i).Legs.take k) r.Start,(k:Int))) (fun k hk=>?_) ?_ rfl (by omega)
  ·have gl:=gt.leg _ (wAW hk)
   have hle:=gl.le
   have hlen:=wFU g.rules ((gd r.Teams i).Legs.take k) r.Start fun a ha=>gt.leg a (nV ha)
   rw [nT] at hlen
   simp only
   rw [wDv hi,nA,wFm,if_pos (by omega)]
   refine wGP (m:=(gd (gd r.Teams i).Legs k).Loops.length) (fun j=>(wEf r.Rules ((gd r.Teams i).Legs.take k) r.Start ++ (nm j).map (fun q=>tAt r.Rules (gd (gd r.Teams i).Legs k) (wFB r.Rules ((gd r.Teams i).Legs.take k) r.Start) (q + 1)),(j:Int) + 1)) (fun j hj=>?_) ?_ (by simp) (by omega)
   ·simp only
    rw [wEe hk,nA,wFy,if_pos (by omega),show (j:Int) + 1=((j + 1:Nat):Int) by omega,wKy g hi hk (by omega),nA,wDM (by simp;omega),nA,wAQ (by omega) (by omega),kQ,nL,ng]
    rfl
   ·simp only
    rw [wEe hk,nA,wFy,if_neg (by omega),wAQ (by omega) (by omega),wBo hk,(wFE r.Rules (gd (gd r.Teams i).Legs k) ((gd r.Teams i).Legs.take k) r.Start).1]
    rfl
  ·simp only
   have hlen:=wFU g.rules (gd r.Teams i).Legs r.Start gt.leg
   rw [wDv hi,nA,wFm,if_neg (by omega),nE,wKM,wDM (by simp;omega),nA,wDM (by simp;omega),nA,wAQ (by omega) (by omega),wBo hi,nL,nL]
   rfl
 ·simp only
  rw [if_neg (by omega),nE]
  obtain ⟨L,hL⟩:∃ L:Nat,r.Rules.Laps=L:=⟨r.Rules.Laps.toNat,by omega⟩
  have hm:(r.Rules.Classes.length:Int) * r.Rules.Laps=((r.Rules.Classes.length * L:Nat):Int):=by rw [hL,Int.natCast_mul]
  have hhi:r.Rules.Classes.length * L <= 20:=kK (Nat.mul_le_mul hc.2 (show L <= 5 by omega)) (by omega)
  rw [show (((cv r).Rules.Classes.length:Int) * (cv r).Rules.Laps)=(r.Rules.Classes.length:Int) * r.Rules.Laps from rfl,wAQ (by omega) (by omega)]
  rfl
def lgL (l:wAN):Bool:=decide (l.Loops.length <= 7) && (decide (l.Bouts.length <= 7) && allN (fun k=>decide ((gd l.Bouts k).length <= 12)) l.Bouts.length 0)
def lgT (t:wAH):Bool:=decide (t.Classes.length <= 10) && (decide (t.Legs.length <= 6) && allN (fun k=>lgL (gd t.Legs k)) t.Legs.length 0)
def lgR (r:wAD):Bool:=decide (r.Rules.Classes.length <= 6) && (decide (r.Teams.length <= 14) && allN (fun k=>lgT (gd r.Teams k)) r.Teams.length 0)
theorem wQX (r:wAD):wDP r=some (!lgR r):=by
 unfold wDP lgR
 by_cases c1:r.Rules.Classes.length <= 6
 ·rw [if_neg (by omega),decide_eq_true c1,nO]
  by_cases c2:r.Teams.length <= 14
  ·rw [if_neg (by omega),decide_eq_true c2,nO,forR_all (B:=Bool) (fun k=>lgT (gd r.Teams k)) true (by omega) fun i hi=>?_]
   ·cases allN (fun k=>lgT (gd r.Teams k)) r.Teams.length 0 <;> rfl
   ·rw [wAX hi,nA]
    unfold lgT
    by_cases d1:(gd r.Teams i).Classes.length <= 10
    ·rw [if_neg (by omega),decide_eq_true d1,nO]
     by_cases d2:(gd r.Teams i).Legs.length <= 6
     ·rw [if_neg (by omega),decide_eq_true d2,nO,forR_all (B:=Unit ⊕ Bool) (fun k=>lgL (gd (gd r.Teams i).Legs k)) (.inr true) (by omega) fun k hk=>?_]
      ·cases allN (fun k=>lgL (gd (gd r.Teams i).Legs k)) (gd r.Teams i).Legs.length 0 <;> rfl
      ·rw [wAX hk,nA]
       unfold lgL
       by_cases e1:(gd (gd r.Teams i).Legs k).Loops.length <= 7
       ·rw [if_neg (by omega),decide_eq_true e1,nO]
        by_cases e2:(gd (gd r.Teams i).Legs k).Bouts.length <= 7
        ·rw [if_neg (by omega),decide_eq_true e2,nO,forR_all (B:=Unit ⊕ (Unit ⊕ Bool)) (fun j=>decide ((gd (gd (gd r.Teams i).Legs k).Bouts j).length <= 12)) (.inr (.inr true)) (by omega) fun j hj=>?_]
         ·cases allN (fun j=>decide ((gd (gd (gd r.Teams i).Legs k).Bouts j).length <= 12)) (gd (gd r.Teams i).Legs k).Bouts.length 0 <;> rfl
         ·rw [wAX hj,nA]
          by_cases e3:(gd (gd (gd r.Teams i).Legs k).Bouts j).length <= 12
          ·rw [if_neg (by omega),if_pos (decide_eq_true e3)]
          ·rw [if_pos (by omega),if_neg (by simpa using e3)]
           rfl
        ·rw [if_pos (by omega),decide_eq_false e2]
         rfl
       ·rw [if_pos (by omega),decide_eq_false e1]
        rfl
     ·rw [if_pos (by omega),decide_eq_false d2]
      rfl
    ·rw [if_pos (by omega),decide_eq_false d1]
     rfl
  ·rw [if_pos (by omega),decide_eq_false c2]
   rfl
 ·rw [if_pos (by omega),decide_eq_false c1]
  rfl
theorem wMp {r:wAD} (h:lgR r=true):wGp r:=by
 unfold lgR at h
 simp only [nM,decide_eq_true_eq,allN_iff] at h
 refine ⟨h.1,h.2.1,fun t ht=>?_⟩
 obtain ⟨i,hi,rfl⟩:=wJU ht
 have h3:=h.2.2 i (by omega) (by omega)
 unfold lgT at h3
 simp only [nM,decide_eq_true_eq,allN_iff] at h3
 refine ⟨h3.1,h3.2.1,fun l hl=>?_⟩
 obtain ⟨k,hk,rfl⟩:=wJU hl
 have h4:=h3.2.2 k (by omega) (by omega)
 unfold lgL at h4
 simp only [nM,decide_eq_true_eq,allN_iff] at h4
 refine ⟨h4.1,h4.2.1,fun b hb=>?_⟩
 obtain ⟨j,hj,rfl⟩:=wJU hb
 exact h4.2.2 j (by omega) (by omega)
theorem wJW {l:List Int} (h:l.length <= 1000):wBU l=some l:=by
 unfold wBU
 rw [wDM (by simp;omega)]
 rfl
theorem wNR {l:List Bool} (h:l.length <= 1000):wCZ l=some l:=by
 unfold wCZ
 rw [wDM (by simp;omega)]
 rfl
theorem wOP {l:List (List Bool)} (h:l.length <= 1000) (hb:∀ b ∈ l,b.length <= 1000):wBq l=some l:=by
 unfold wBq
 rw [wBs (fun k=>l.take k) (s0:=[]) (by simp) (by omega) fun k hk=>?_]
 ·rw [nE];rfl
 ·rw [wAX hk,nA,wNR (hb _ (wAW hk)),nA,wDM (by simp;omega),nA,wBo hk]
theorem wJX {p:wAE} (h:p.Classes.length <= 1000):wBS p=some p:=by
 unfold wBS
 rw [wJW h]
 rfl
theorem wMq {r:wAD} (h:wGp r):wCe r=some r:=by
 unfold wCe
 have hn:=h.n;have hc:=h.cls
 rw [wJX (by omega),nA,nA]
 simp only
 rw [wBs (fun k=>r.Teams.take k) (s0:=[]) (by simp) (by omega) fun i hi=>?_]
 ·rw [nE];rfl
 ·have ht:=h.team _ (wAW hi)
  have h1:=ht.cls;have h2:=ht.legs
  rw [wAX hi,nA,wJW (by omega),nA,nA,wBs (fun k=>(gd r.Teams i).Legs.take k) (s0:=[]) (by simp) (by omega) fun k hk=>?_]
  ·rw [nA,nE,wDM (by simp;omega),nA,wBo hi]
  ·have hl:=ht.leg _ (wAW hk)
   have g1:=hl.loops;have g2:=hl.bouts
   rw [wAX hk,nA,wJW (by omega),nA,wOP (by omega) (fun b hb=>by have:=hl.bout b hb;omega),nA,wDM (by simp;omega),nA,wBo hk]
theorem wQY {r:wAD} (h:wGp r):wDT r=some (cv r):=by
 unfold wDT
 have hn:=h.n;have hc:=h.cls
 rw [wJX (by omega),nA,nA]
 simp only
 rw [wMq h,nA,wBs (fun k=>(r.Teams.take k).map cvT) (s0:=[]) (by simp) (by omega) fun i hi=>?_]
 ·rw [nE];rfl
 ·have ht:=h.team _ (wAW hi)
  have h2:=ht.legs
  rw [wAX hi,nA,wBs (fun k=>((gd r.Teams i).Legs.take k).map cvL) (s0:=[]) (by simp) (by omega) fun k hk=>?_]
  ·rw [nA,nE,wDM (by simp;omega),nA,wBo hi,nL]
   rfl
  ·rw [wAX hk,nA,wDM (by simp;omega),nA,wBo hk,nL]
   rfl
theorem wMr {l:List Int} (h:l.length <= 100000):wBD l l=some true:=wNP (by omega)
theorem wQZ {l:List Bool} (h:l.length <= 100000):wCa l l=some true:=by
 unfold wCa
 rw [if_pos rfl,wDf (by omega) fun k hk=>?_]
 ·rfl
 ·rw [wAX hk,nA,nA,if_pos (by simp)]
theorem wQa {l:List (List Int)} (h:l.length <= 100000) (hb:∀ b ∈ l,b.length <= 100000):wBB l l=some true:=by
 unfold wBB
 rw [if_pos rfl,wDf (by omega) fun k hk=>?_]
 ·rfl
 ·rw [wAX hk,nA,nA,wMr (hb _ (wAW hk)),nA,if_pos rfl]
theorem wPO {l:List (List Bool)} (h:l.length <= 100000) (hb:∀ b ∈ l,b.length <= 100000):wBr l l=some true:=by
 unfold wBr
 rw [if_pos rfl,wDf (by omega) fun k hk=>?_]
 ·rfl
 ·rw [wAX hk,nA,nA,wQZ (hb _ (wAW hk)),nA,if_pos rfl]
theorem wQb {r:wAD} (h:wGp r):wDU r r=some true:=by
 unfold wDU wDB
 have hn:=h.n;have hc:=h.cls
 rw [wMr (by omega),nA,if_pos rfl,if_pos rfl,if_pos rfl,if_pos rfl,if_pos rfl,nA,if_pos (decide_eq_true rfl),if_pos rfl,if_pos rfl,wDf (by omega) fun i hi=>?_]
 ·rfl
 ·have ht:=h.team _ (wAW hi)
  have h1:=ht.cls;have h2:=ht.legs
  rw [wAX hi,nA,nA,if_pos rfl,wMr (by omega),nA,if_pos rfl,if_pos rfl,wDf (by omega) fun k hk=>?_]
  ·rfl
  ·have hl:=ht.leg _ (wAW hk)
   have g1:=hl.loops;have g2:=hl.bouts
   rw [wAX hk,nA,nA,if_pos rfl,wMr (by omega),nA,if_pos rfl,wPO (by omega) (fun b hb=>by have:=hl.bout b hb;omega),nA,if_pos rfl]
theorem wIu {p:wAE} (gp:wEg p) {t:wAH} {l:wAN} (g:wHs p t l) (x:Int) {i:Nat}:∀ (j:Nat),i < j->j <= l.Loops.length->tAt p l x i < tAt p l x j
 | 0,h,_=>by omega
 | j + 1,h,hj=>by
  have h1:=wMd gp g x (k:=j) (by omega)
  rcases nu i j with hi | hi
  ·have:=wIu gp g x j hi (by omega)
   omega
  ·have:i=j:=by omega
   subst this
   omega
theorem wQc {p:wAE} (gp:wEg p) {t:wAH} {l:wAN} (g:wHs p t l) (x:Int):(wOH p l x).Pairwise (· < ·)/\∀ a ∈ wOH p l x,x < a/\a <= wMc p l x:=by
 unfold wOH
 refine ⟨?_,fun a ha=>?_⟩
 ·rw [kI]
  refine List.Pairwise.imp_of_mem ?_ List.pairwise_lt_range
  intro i j hi hj hij
  exact wIu gp g x _ (by omega) (by have:=List.mem_range.1 hj;omega)
 ·obtain ⟨i,hi,rfl⟩:=na.1 ha
  have hi:=List.mem_range.1 hi
  have:=wIu gp g x (i:=0) (i + 1) (by omega) (by omega)
  refine ⟨this,?_⟩
  unfold wMc
  rcases nu (i + 1) l.Loops.length with h | h
  ·have:=wIu gp g x (i:=i + 1) l.Loops.length h (kE _)
   omega
  ·have:i + 1=l.Loops.length:=by omega
   rw [this]
   exact nU _
theorem wKO {p:wAE} (gp:wEg p) {t:wAH}:∀ (l:List wAN) (x:Int),(∀ a ∈ l,wHs p t a)->(wEf p l x).Pairwise (· < ·)/\∀ a ∈ wEf p l x,x < a/\a <= x + 69000 * (l.length:Int)
 | [],x,_=>by simp [wEf]
 | b :: l,x,h=>by
  obtain ⟨h1,h2⟩:=wQc gp (h b (by simp)) x
  obtain ⟨h3,h4⟩:=wKO gp l (wMc p b x) fun c hc=>h c (by simp [hc])
  have h5:=wJt gp (h b (by simp)) x
  rw [wEf]
  refine ⟨nv.2 ⟨h1,h3,fun a ha c hc=>?_⟩,fun a ha=>?_⟩
  ·have:=(h2 a ha).2
   have:=(h4 c hc).1
   omega
  ·simp only [nP]
   rcases nS.1 ha with ha | ha
   ·have:=h2 a ha
    omega
   ·have:=h4 a ha
    omega
theorem wIQ {p:wAE} {L:Nat} (hL:p.Laps=L) {t:wAH}:∀ (l:List wAN) (x:Int),(∀ a ∈ l,wHs p t a)->(wEf p l x).length <= l.length * L
 | [],x,_=>by simp [wEf]
 | a :: l,x,h=>by
  have h1:=(h a (by simp)).le
  have h2:=wIQ hL l (wMc p a x) fun b hb=>h b (by simp [hb])
  rw [wEf,nY,nP,Nat.add_mul]
  simp only [wOH,nI,ke]
  omega
def cn (l:List Int) (t:Int):Nat:=l.countP fun x=>decide (x <= t)
theorem wJl (l:List Int) (t:Int):cn l t <= l.length:=List.countP_le_length
theorem wQd (l:List Int) {s t:Int} (h:s <= t):cn l s <= cn l t:=List.countP_mono_left fun x _ hx=>by simp at hx ⊢;omega
theorem wOQ:∀ {l:List Int} {t:Int} {k:Nat},l.Pairwise (· < ·)->k < l.length->(k < cn l t ↔ gd l k <= t)
 | [],t,k,_,hk=>by simp at hk
 | a :: l,t,0,h,_=>by
  show 0 < cn (a :: l) t ↔ a <= t
  unfold cn
  rw [List.countP_cons]
  by_cases c:a <= t
  ·simp [c]
  ·simp only [c,decide_false,nl,if_false,Nat.add_zero,iff_false]
   have:l.countP (fun x=>decide (x <= t))=0:=nw.2 fun x hx=>by
    have:=(kF.1 h).1 x hx
    simp;omega
   omega
 | a :: l,t,k + 1,h,hk=>by
  show k + 1 < cn (a :: l) t ↔ gd l k <= t
  have hk':k < l.length:=by simpa using hk
  have ih:=wOQ (t:=t) (kF.1 h).2 hk'
  rw [<- ih]
  unfold cn
  rw [List.countP_cons]
  by_cases c:a <= t
  ·simp [c]
  ·have h1:l.countP (fun x=>decide (x <= t))=0:=nw.2 fun x hx=>by
    have:=(kF.1 h).1 x hx
    simp;omega
   simp [c,h1]
theorem wRt {l:List Int} (h:l.Pairwise (· < ·)) {k:Nat} (hk:k < l.length):cn l (gd l k)=k + 1:=by
 have h1:=(wOQ (t:=gd l k) h hk).2 (nU _)
 have h2:=wJl l (gd l k)
 by_cases e:k + 1=l.length
 ·omega
 ·have h3:=mt (wOQ (t:=gd l k) (k:=k + 1) h (by omega)).1
  have h4:gd l k < gd l (k + 1):=by
   have:=nD.1 h k (k + 1) hk (by omega) (by omega)
   rwa [<- wCv hk,<- wCv (by omega)] at this
  have:=h3 (by omega)
  omega
theorem wPz {l:List Int} (h:l.Pairwise (· < ·)) {t:Int} (ht:t ∈ l):0 < cn l t/\cn l t <= l.length/\gd l (cn l t - 1)=t:=by
 obtain ⟨k,hk,e⟩:=nH ht
 have e':gd l k=t:=by rw [wCv hk,e]
 have:=wRt h hk
 rw [e'] at this
 refine ⟨by omega,wJl _ _,?_⟩
 rw [this];exact e'
theorem wQe {l:List Int} (h:l.Pairwise (· < ·)) {s t:Int} (hst:s < t) (hno:∀ x ∈ l,s < x->t <= x) :
  cn l t=if cn l s < l.length/\gd l (cn l s)=t then cn l s + 1 else cn l s:=by
 have h0:=wJl l s
 have hm:=wQd l (show s <= t by omega)
 by_cases hl:cn l s < l.length
 ·have h1:s < gd l (cn l s):=by
   have:=mt (wOQ (t:=s) h hl).2 (by omega)
   omega
  have h2:=hno _ (wAW hl) h1
  by_cases e:gd l (cn l s)=t
  ·rw [if_pos ⟨hl,e⟩]
   have:=wRt h hl
   rw [e] at this
   exact this
  ·rw [if_neg (fun c=>e c.2)]
   have:=mt (wOQ (t:=t) h hl).1 (by omega)
   omega
 ·rw [if_neg (fun c=>hl c.1)]
  have:=wJl l t
  omega
def Lp (p:wAL) (d time:Int) (j:Nat):Prop:=j < p.done.length/\gd p.out j=false/\d + 2 <= gd p.done j/\gd (gd p.Race.Times j) ((gd p.done j) - 1).toNat=time
structure wLA (p:wAL):Prop where
 n:p.done.length <= 60
 o:p.out.length=p.done.length
 b:p.Race.Bibs.length=p.done.length
 t:p.Race.Times.length=p.done.length
 d0:∀ i,i < p.done.length->0 <= gd p.done i/\gd p.done i <= (gd p.Race.Times i).length
 len:∀ l ∈ p.Race.Times,l.length <= 1000
def ByP (p:wAL) (d time:Int) (n:Nat) (x:Int):Prop :=
 (x=-1/\∀ j,j < n->¬ Lp p d time j) \/ ∃ j:Nat,x=j/\j < n/\Lp p d time j/\∀ i,i < n->Lp p d time i->gd p.Race.Bibs j <= gd p.Race.Bibs i
theorem wEm {S:Type} {body:Nat->S->Option S} {n:Nat} {s0:S} (I:Nat->S->Prop) (hn:n <= 1000) (h0:I 0 s0) (h:∀ i s,i < n->I i s->∃ s',body i s=some s'/\I (i + 1) s'):∃ s,wCE 0 (n:Int) body s0=some s/\I n s:=by
 rw [wIL (by omega)]
 have:=wHp (body:=body) I n 0 s0 h0 fun i s _ h2 h3=>h i s (by omega) h3
 rwa [Nat.zero_add] at this
theorem wRu {p:wAL} (G:wLA p) (i d time:Int) (hd0:0 <= d) (hd1:d <= 1000):∃ x,wBa p i d time=some x/\ByP p d time p.done.length x:=by
 unfold wBa
 have hn:=G.n
 obtain ⟨x,e,hx⟩:=wEm (body:=fun (k10:Nat) (x9:Int) =>
  ((idx p.done (↑k10:Int)).bind fun x35 =>
  (idx p.out (↑k10:Int)).bind fun x46 =>
  if x46=true then
   some x9
  else
   if (w64 (d + 2)) <= x35 then
    (idx p.Race.Times (↑k10:Int)).bind fun x60 =>
    (idx x60 (w64 (x35 - 1))).bind fun x73 =>
    if x73=time then
     if x9 < 0 then
      some (↑k10:Int)
     else
      (idx p.Race.Bibs (↑k10:Int)).bind fun x92 =>
      (idx p.Race.Bibs x9).bind fun x100 =>
      if x92 < x100 then
       some (↑k10:Int)
      else
       some x9
    else
     some x9
   else
    some x9).bind fun x34 =>
  some x34) (n:=p.done.length) (s0:=(-1:Int)) (fun k x=>ByP p d time k x) (by omega) (.inl ⟨rfl,fun j hj=>by omega⟩) (fun k x hk hx=>by
   have hd:=G.d0 k hk
   have ho:=G.o
   have hb:=G.b
   have ht:=G.t
   have hll:=G.len _ (wAW (l:=p.Race.Times) (k:=k) (by omega))
   simp only [wQT]
   rw [wAX hk,nA,wAX (by omega),nA,wAQ (by omega) (by omega)]
   have skip:¬ Lp p d time k->ByP p d time (k + 1) x:=fun hno=>by
    rcases hx with ⟨h1,h2⟩ | ⟨j,h1,h2,h3,h4⟩
    ·exact .inl ⟨h1,fun j hj=>by
      by_cases e:j=k
      ·exact e ▸ hno
      ·exact h2 j (by omega)⟩
    ·exact .inr ⟨j,h1,by omega,h3,fun i hi hL=>by
      by_cases e:i=k
      ·exact absurd (e ▸ hL) hno
      ·exact h4 i (by omega) hL⟩
   by_cases c1:gd p.out k=true
   ·rw [if_pos c1]
    exact ⟨x,rfl,skip fun h=>by have:=h.2.1;rw [c1] at this;exact nr this⟩
   rw [if_neg c1]
   by_cases c2:d + 2 <= gd p.done k
   ·have e1:(gd p.done k) - 1=((((gd p.done k) - 1).toNat:Nat):Int):=by omega
    rw [if_pos c2,wAX (by omega),nA,wAQ (by omega) (by omega),e1,wAX (by omega),nA]
    by_cases c3:gd (gd p.Race.Times k) ((gd p.done k) - 1).toNat=time
    ·have hL:Lp p d time k:=⟨hk,by simpa using c1,c2,c3⟩
     rw [if_pos c3]
     rcases hx with ⟨h1,h2⟩ | ⟨j,h1,h2,h3,h4⟩
     ·rw [if_pos (by omega)]
      exact ⟨_,rfl,.inr ⟨k,rfl,by omega,hL,fun i hi hL'=>by
       by_cases e:i=k
       ·subst e;exact nU _
       ·exact absurd hL' (h2 i (by omega))⟩⟩
     ·subst h1
      rw [if_neg (by omega),wAX (by omega),nA,wAX (by omega),nA]
      by_cases c4:gd p.Race.Bibs k < gd p.Race.Bibs j
      ·rw [if_pos c4]
       exact ⟨_,rfl,.inr ⟨k,rfl,by omega,hL,fun i hi hL'=>by
        by_cases e:i=k
        ·subst e;exact nU _
        ·have:=h4 i (by omega) hL'
         omega⟩⟩
      ·rw [if_neg c4]
       exact ⟨_,rfl,.inr ⟨j,rfl,by omega,h3,fun i hi hL'=>by
        by_cases e:i=k
        ·subst e;omega
        ·exact h4 i (by omega) hL'⟩⟩
    ·rw [if_neg c3]
     exact ⟨x,rfl,skip fun h=>c3 h.2.2.2⟩
   ·rw [if_neg c2]
    exact ⟨x,rfl,skip fun h=>c2 h.2.2.1⟩)
 rw [e,nA]
 exact ⟨x,rfl,hx⟩
def nx (p:wAL) (t:Int) (i:Nat):Int:=if gd p.out i=false/\gd p.done i < (gd p.Race.Times i).length/\gd (gd p.Race.Times i) (gd p.done i).toNat=t then gd p.done i + 1 else gd p.done i
def st1 (p0:wAL) (p1:Int):Nat->List Int->Option (List Int):=fun k10 l9 =>
 (idx p0.Race.Times (↑k10:Int)).bind fun x33 =>
 (chk (↑k10:Int) l9.length).bind fun _ =>
 (chk (↑k10:Int) p0.out.length).bind fun _ =>
 if (gd p0.out k10)=true then
 some l9
 else
 if (gd l9 k10) < (↑x33.length:Int) then
 (idx x33 (gd l9 k10)).bind fun x62 =>
 if x62=p1 then
 some (nG l9 k10 (w64 ((gd l9 k10) + 1)))
 else
 some l9
 else
 some l9
def st2 (p0:wAL) (p1:Int) (y15:List Int):Nat->List Int->Option (List Int):=fun k121 l117 =>
 (chk (↑k121:Int) y15.length).bind fun _ =>
 (chk (↑k121:Int) p0.out.length).bind fun _ =>
 if (gd p0.out k121)=true then
 some l117
 else
 (wBa (⟨p0.Race,y15,p0.out⟩:wAL) (↑k121:Int) (gd y15 k121) p1).bind fun x193 =>
 if 0 <= x193 then
 (app 8 l117 [(↑k121:Int)]).bind fun x222 =>
 some x222
 else
 some l117
theorem wLs (p0:wAL) (p1:Int):wBb p0 p1=(wCE 0 (↑p0.Race.Times.length:Int) (st1 p0 p1) p0.done).bind fun y =>
 (wCE 0 (↑y.length:Int) (st2 p0 p1 y) []).bind fun z=>some (z,(⟨p0.Race,y,p0.out⟩:wAL)):=rfl
theorem wRv {p:wAL} (G:wLA p) (t:Int):∃ y,wCE 0 (↑p.Race.Times.length:Int) (st1 p t) p.done=some y/\y.length=p.done.length/\∀ i,i < p.done.length->gd y i=nx p t i:=by
 have hn:=G.n
 have ho:=G.o
 have ht:=G.t
 obtain ⟨y,e,h1,h2⟩:=wEm (body:=st1 p t) (n:=p.Race.Times.length) (s0:=p.done) (fun k y=>y.length=p.done.length/\∀ i,i < p.done.length->gd y i=if i < k then nx p t i else gd p.done i) (by omega) ⟨rfl,fun i _=>by rw [if_neg (by omega)]⟩ (fun k y hk ⟨h1,h2⟩=>by
  have hk':k < p.done.length:=by omega
  have hd:=G.d0 k hk'
  have hll:=G.len _ (wAW (l:=p.Race.Times) (k:=k) hk)
  have hyk:gd y k=gd p.done k:=by rw [h2 k hk',if_neg (by omega)]
  have keep:nx p t k=gd p.done k->∀ i,i < p.done.length->gd y i=if i < k + 1 then nx p t i else gd p.done i:=fun e i hi=>by
   rw [h2 i hi]
   by_cases c:i=k
   ·subst c
    rw [if_neg (by omega),if_pos (by omega),e]
   ·by_cases c2:i < k
    ·rw [if_pos c2,if_pos (by omega)]
    ·rw [if_neg c2,if_neg (by omega)]
  unfold st1
  rw [wAX hk,nA,wBy (by omega) (by omega),nA,wBy (by omega) (by omega),nA,hyk]
  by_cases c1:gd p.out k=true
  ·rw [if_pos c1]
   exact ⟨y,rfl,h1,keep (if_neg (fun h=>by rw [c1] at h;exact nr h.1))⟩
  have c1':gd p.out k=false:=by simpa using c1
  rw [if_neg c1]
  by_cases c2:gd p.done k < ((gd p.Race.Times k).length:Int)
  ·have e1:idx (gd p.Race.Times k) (gd p.done k)=some (gd (gd p.Race.Times k) (gd p.done k).toNat):=by
    unfold idx
    rw [if_pos hd.1,wBO (by omega)]
   rw [if_pos c2,e1,nA]
   by_cases c3:gd (gd p.Race.Times k) (gd p.done k).toNat=t
   ·have en:nx p t k=gd p.done k + 1:=if_pos ⟨c1',c2,c3⟩
    rw [if_pos c3,wAQ (by omega) (by omega)]
    refine ⟨_,rfl,by simpa using h1,fun i hi=>?_⟩
    rw [wIW (by omega) (by omega)]
    by_cases c:i=k
    ·subst c
     rw [if_pos rfl,if_pos (by omega),en]
    ·rw [if_neg c,h2 i hi]
     by_cases c4:i < k
     ·rw [if_pos c4,if_pos (by omega)]
     ·rw [if_neg c4,if_neg (by omega)]
   ·rw [if_neg c3]
    exact ⟨y,rfl,h1,keep (if_neg (fun h=>c3 h.2.2))⟩
  ·rw [if_neg c2]
   exact ⟨y,rfl,h1,keep (if_neg (fun h=>c2 h.2.1))⟩)
 exact ⟨y,e,h1,fun i hi=>by rw [h2 i hi,if_pos (by omega)]⟩
theorem nx_le {p:wAL} (G:wLA p) (t:Int) {i:Nat} (hi:i < p.done.length):0 <= nx p t i/\nx p t i <= (gd p.Race.Times i).length:=by
 have:=G.d0 i hi
 unfold nx
 split <;> omega
theorem wQf {p:wAL} (G:wLA p) (t:Int):∃ z y,wBb p t=some (z,(⟨p.Race,y,p.out⟩:wAL))/\y.length=p.done.length/\(∀ i,i < p.done.length->gd y i=nx p t i)/\wLA (⟨p.Race,y,p.out⟩:wAL) /\
  z.Pairwise (· < ·)/\∀ x,x ∈ z ↔ ∃ i:Nat,x=i/\i < p.done.length/\gd p.out i=false/\∃ j,Lp (⟨p.Race,y,p.out⟩:wAL) (gd y i) t j:=by
 rw [wLs]
 have hn:=G.n
 obtain ⟨y,e,h1,h2⟩:=wRv G t
 rw [e,nA]
 have G':wLA (⟨p.Race,y,p.out⟩:wAL):=⟨by show y.length <= 60;omega,by show p.out.length=y.length;rw [h1];exact G.o,by show p.Race.Bibs.length=y.length;rw [h1];exact G.b,by show p.Race.Times.length=y.length;rw [h1];exact G.t,fun i hi=>by
  have hi':i < p.done.length:=by rw [<- h1];exact hi
  show 0 <= gd y i/\gd y i <= _
  rw [h2 i hi']
  exact nx_le G t hi',G.len⟩
 obtain ⟨z,ez,z1,z2⟩:=wEm (body:=st2 p t y) (n:=y.length) (s0:=[]) (fun k z=>z.Pairwise (· < ·)/\∀ x,x ∈ z ↔ ∃ i:Nat,x=i/\i < k/\gd p.out i=false/\∃ j,Lp (⟨p.Race,y,p.out⟩:wAL) (gd y i) t j) (by omega) ⟨List.Pairwise.nil,fun x=>by simp⟩ (fun k z hk ⟨z1,z2⟩=>by
  have hk':k < p.done.length:=by omega
  have ho:=G.o
  have hyk:=G'.d0 k hk
  have hll:=G.len _ (wAW (l:=p.Race.Times) (k:=k) (by have:=G.t;omega))
  have hzl:z.length <= k:=by
   have hsub:∀ x ∈ z,0 <= x/\x < k:=fun x hx=>by
    obtain ⟨i,rfl,hi,_⟩:=(z2 x).1 hx
    omega
   rcases nu k z.length with c | c
   ·exfalso
    have key:∀ (m:Nat),m < z.length->(m:Int) <= gd z m:=by
     intro m
     induction m with
     | zero=>intro hm;exact (hsub _ (wAW hm)).1
     | succ m ih =>
      intro hm
      have h3:=ih (by omega)
      have h4:=nD.1 z1 m (m + 1) (by omega) hm (by omega)
      rw [<- wCv (by omega),<- wCv hm] at h4
      omega
    have h5:=key k c
    have h6:=(hsub _ (wAW c)).2
    omega
   ·exact c
  have skip:¬ (gd p.out k=false/\∃ j,Lp (⟨p.Race,y,p.out⟩:wAL) (gd y k) t j)->∀ x,x ∈ z ↔ ∃ i:Nat,x=i/\i < k + 1/\gd p.out i=false/\∃ j,Lp (⟨p.Race,y,p.out⟩:wAL) (gd y i) t j:=fun hno x=>by
   rw [z2]
   constructor
   ·rintro ⟨i,h1,h2,h3⟩
    exact ⟨i,h1,by omega,h3⟩
   ·rintro ⟨i,h1,h2,h3⟩
    by_cases c:i=k
    ·exact absurd (c ▸ h3) hno
    ·exact ⟨i,h1,by omega,h3⟩
  unfold st2
  rw [wBy (by omega) (by omega),nA,wBy (by omega) (by omega),nA]
  by_cases c1:gd p.out k=true
  ·rw [if_pos c1]
   exact ⟨z,rfl,z1,skip (fun h=>by have:=h.1;rw [c1] at this;exact nr this)⟩
  have c1':gd p.out k=false:=by simpa using c1
  obtain ⟨x,ex,hx⟩:=wRu G' (k:Int) (gd y k) t hyk.1 (by
   have:=hyk.2
   simp only at this
   omega)
  rw [if_neg c1,ex,nA]
  rcases hx with ⟨h3,h4⟩ | ⟨j,h3,h4,h5,_⟩
  ·rw [if_neg (by omega)]
   exact ⟨z,rfl,z1,skip (fun h=>by obtain ⟨_,j,hj⟩:=h;exact h4 j hj.1 hj)⟩
  ·rw [if_pos (by omega),wDM (by simp;omega),nA]
   refine ⟨_,rfl,?_,fun x=>?_⟩
   ·rw [nv]
    refine ⟨z1,kP _ _,fun a ha b hb=>?_⟩
    obtain ⟨i,rfl,hi,_⟩:=(z2 a).1 ha
    have:=nQ.1 hb
    omega
   ·rw [nS,z2,nQ]
    constructor
    ·rintro (⟨i,h1,h2,h3⟩ | h)
     ·exact ⟨i,h1,by omega,h3⟩
     ·exact ⟨k,h,by omega,c1',j,h5⟩
    ·rintro ⟨i,h1,h2,h3⟩
     by_cases c:i=k
     ·exact .inr (by rw [h1,c])
     ·exact .inl ⟨i,h1,by omega,h3⟩)
 rw [ez,nA]
 refine ⟨z,y,rfl,h1,h2,G',z1,fun x=>?_⟩
 rw [z2,h1]
def rA (p:wAL) (z:List Int) (t:Int) (k1191:Nat) (l1188:List wAG):Option (List wAG) :=
 (chk (↑k1191:Int) z.length).bind fun _ =>
 (idx p.Race.Bibs (gd z k1191)).bind fun x1222 =>
 (chk (gd z k1191) p.done.length).bind fun _ =>
 (wBa p (gd z k1191) (gd p.done (gd z k1191).toNat) t).bind fun x1264 =>
 (idx p.Race.Bibs x1264).bind fun x1286 =>
 (app 32 l1188 [(⟨x1222,(gd p.done (gd z k1191).toNat),t,x1286⟩:wAG)]).bind fun x1299 =>
 some x1299
def rO (z:List Int) (k1338:Nat) (l1337:List Bool):Option (List Bool) :=
 (chk (↑k1338:Int) z.length).bind fun _ =>
 (chk (gd z k1338) l1337.length).bind fun _ =>
 some (nG l1337 (gd z k1338).toNat true)
abbrev RS:=(List wAG) × Int × (List Int) × (List (List Int)) × (List Int) × (List Bool)
def rB:RS->Int->Option (RS ⊕ Empty)
 | (l1081,x1085,l1086,l1089,l1092,l1095),x1124 =>
  (wBb (⟨(⟨x1085,l1086,l1089⟩:wAF),l1092,l1095⟩:wAL) x1124).bind fun (x1150,x1151) =>
  (wCE 0 (↑x1150.length:Int) (rA x1151 x1150 x1124) l1081).bind fun y1196 =>
  (wCE 0 (↑x1150.length:Int) (rO x1150) x1151.out).bind fun y1343 =>
  some (.inl (y1196,x1151.Race.Laps,x1151.Race.Bibs,x1151.Race.Times,x1151.done,y1343))
theorem wNS (p0:wAF):wDh p0=((mkz 8 (↑p0.Bibs.length:Int) (0:Int)).bind fun x18 =>
 (mkz 1 (↑p0.Bibs.length:Int) false).bind fun x26 =>
 some (x18,x26)).bind fun (l9,l12) =>
 (wCy p0).bind fun x520 =>
 (wBR (S:=RS) (E:=Empty) rB ([],p0.Laps,p0.Bibs,p0.Times,l9,l12) x520).bind fun rr1118 =>
 match rr1118 with
 | .inl (y1416,y1417,y1418,y1419,y1420,y1421) =>
  (wBG y1416 (fun x=>wBW x.1 x.2)).bind fun x1438 =>
  some ((⟨(⟨y1417,y1418,y1419⟩:wAF),y1420,y1421⟩:wAL),x1438)
 | .inr e1432 =>
  e1432.elim:=rfl
theorem wOR {S:Type} {f:S->Int->Option (S ⊕ Empty)} {L:List Int} (I:Nat->S->Prop) {s0:S} (hL:L.length <= 1000000) (h0:I 0 s0) (h:∀ k s,k < L.length->I k s->∃ s',f s (gd L k)=some (.inl s')/\I (k + 1) s'):∃ s',wBR f s0 L=some (.inl s')/\I L.length s':=by
 unfold wBR
 rw [wDo (by omega)]
 have key:∀ body:Nat->S->Option (S ⊕ (S ⊕ Empty)),(∀ k s,k < L.length->I k s->∃ s',body k s=some (.inl s')/\I (k + 1) s')->∃ s',jn (forN body L.length 0 s0) (fun y:S=>some (Sum.inl y:S ⊕ Empty))=some (.inl s')/\I L.length s':=by
  intro body hb
  rcases wMZ (body:=body) I (fun _=>False) L.length 0 s0 h0 (fun k s _ hk hI=>.inl (hb k s (by omega) hI)) with ⟨s',e,hs⟩ | ⟨_,_,h⟩
  ·rw [Nat.zero_add] at hs
   exact ⟨s',by rw [e];rfl,hs⟩
  ·exact h.elim
 refine key _ fun k s hk hI=>?_
 obtain ⟨s',e,hs⟩:=h k s hk hI
 refine ⟨s',?_,hs⟩
 rw [wAX hk,nA,e];rfl
structure wGQ (r:wAF):Prop where
 n:r.Bibs.length <= 60
 t:r.Times.length=r.Bibs.length
 len:∀ l ∈ r.Times,l.length <= 20
 inc:∀ l ∈ r.Times,l.Pairwise (· < ·)
 pos:∀ l ∈ r.Times,∀ x ∈ l,0 <= x/\x <= 360000
 one:r.Bibs.Nodup
def nbf (τ:Nat->Option Int) (i:Nat) (t:Int):Prop:=∀ s,τ i=some s->t <= s
def lap (r:wAF) (τ:Nat->Option Int) (i:Nat) (t:Int) (j:Nat):Prop :=
 j < r.Bibs.length/\nbf τ j t/\t ∈ gd r.Times j/\cn (gd r.Times i) t + 2 <= cn (gd r.Times j) t
structure Exact (r:wAF) (ts:List Int) (τ:Nat->Option Int):Prop where
 in_:∀ i s,i < r.Bibs.length->τ i=some s->s ∈ ts
 iff:∀ i,i < r.Bibs.length->∀ t ∈ ts,nbf τ i t->(τ i=some t ↔ ∃ j,lap r τ i t j)
structure Ent (r:wAF) (τ:Nat->Option Int) (i:Nat) (o:wAG):Prop where
 bib:o.Bib=gd r.Bibs i
 time:τ i=some o.Time
 done:o.Done=cn (gd r.Times i) o.Time
 by_:∃ j,o.By=gd r.Bibs j/\lap r τ i o.Time j/\∀ k,lap r τ i o.Time k->gd r.Bibs j <= gd r.Bibs k
structure Ents (r:wAF) (τ:Nat->Option Int) (a:List wAG):Prop where
 of:∀ o ∈ a,∃ i,i < r.Bibs.length/\Ent r τ i o
 all:∀ i,i < r.Bibs.length->τ i ≠ none->∃ o ∈ a,o.Bib=gd r.Bibs i
 one:(a.map (·.Bib)).Nodup
def wIR (L:List Int) (k:Nat):Int:=if k=0 then -1 else gd L (k - 1)
structure RInv (r:wAF) (L:List Int) (k:Nat) (s:RS):Prop where
 laps:s.2.1=r.Laps
 bibs:s.2.2.1=r.Bibs
 times:s.2.2.2.1=r.Times
 dl:s.2.2.2.2.1.length=r.Bibs.length
 ol:s.2.2.2.2.2.length=r.Bibs.length
 al:s.1.length <= 60 * k
 tau:∃ τ,(∀ i,i < r.Bibs.length->gd s.2.2.2.2.2 i=(τ i).isSome)/\(∀ i,i < r.Bibs.length->gd s.2.2.2.2.1 i=cn (gd r.Times i) ((τ i).getD (wIR L k)))/\Exact r (L.take k) τ/\Ents r τ s.1
theorem wGu {r:wAF} (G:wGQ r) {i j:Nat} (hi:i < r.Bibs.length) (hj:j < r.Bibs.length) (e:gd r.Bibs i=gd r.Bibs j):i=j:=by
 have pw:=nD.1 (nK.1 G.one)
 rw [wCv hi,wCv hj] at e
 rcases kJ i j with c | c | c
 ·exact absurd e (pw i j hi hj c)
 ·exact c
 ·exact absurd e.symm (pw j i hj hi c)
theorem wJY {τ τ':Nat->Option Int} {t u:Int} {z:Nat->Prop} (h1:∀ i,z i->τ' i=some t/\τ i=none) (h2:∀ i,¬ z i->τ' i=τ i) (hu:u <= t) (i:Nat):nbf τ' i u ↔ nbf τ i u:=by
 by_cases c:z i
 ·obtain ⟨a,b⟩:=h1 i c
  unfold nbf
  constructor
  ·intro _ s hs;rw [b] at hs;cases hs
  ·intro _ s hs;rw [a] at hs;cases hs;exact hu
 ·unfold nbf;rw [h2 i c]
theorem wEt {r:wAF} {τ τ':Nat->Option Int} {t u:Int} {z:Nat->Prop} (h1:∀ i,z i->τ' i=some t/\τ i=none) (h2:∀ i,¬ z i->τ' i=τ i) (hu:u <= t) (i j:Nat):lap r τ' i u j ↔ lap r τ i u j:=by
 unfold lap
 rw [wJY h1 h2 hu]
theorem rA_is {r:wAF} (G:wGQ r) {τ:Nat->Option Int} {p:wAL} (hp:wLA p) (hr:p.Race=r) {t:Int} {z:List Int} (hz:∀ x ∈ z,∃ i:Nat,x=i/\i < r.Bibs.length/\(∃ j,Lp p (gd p.done i) t j))
  (hL:∀ i j,i < r.Bibs.length->gd p.out i=false->(Lp p (gd p.done i) t j ↔ lap r τ i t j)) (ho:∀ x ∈ z,∀ i:Nat,x=i->gd p.out i=false) (hd:∀ i,i < r.Bibs.length->gd p.out i=false->gd p.done i=cn (gd r.Times i) t)
  (hzl:z.length <= 60) {a:List wAG} (ha:a.length <= 100000):∃ e,wCE 0 (↑z.length:Int) (rA p z t) a=some (a ++ e)/\e.length=z.length/\∀ q,q < z.length->(gd e q).Bib=gd r.Bibs (gd z q).toNat/\(gd e q).Time=t/\(gd e q).Done=cn (gd r.Times (gd z q).toNat) t/\∃ j,(gd e q).By=gd r.Bibs j/\lap r τ (gd z q).toNat t j/\∀ k,lap r τ (gd z q).toNat t k->gd r.Bibs j <= gd r.Bibs k:=by
 have hb:=hp.b
 obtain ⟨s,e,es,h1,h2,h3⟩:=wEm (body:=rA p z t) (n:=z.length) (s0:=a) (fun k s=>∃ e,s=a ++ e/\e.length=k/\∀ q,q < k->(gd e q).Bib=gd r.Bibs (gd z q).toNat/\(gd e q).Time=t/\(gd e q).Done=cn (gd r.Times (gd z q).toNat) t/\∃ j,(gd e q).By=gd r.Bibs j/\lap r τ (gd z q).toNat t j/\∀ k,lap r τ (gd z q).toNat t k->gd r.Bibs j <= gd r.Bibs k) (by omega) ⟨[],by simp,rfl,fun q hq=>by omega⟩ (fun k s hk ⟨e,hs,h2,h3⟩=>by
  obtain ⟨i,hi,hi2,j0,hj0⟩:=hz _ (wAW hk)
  have hout:=ho _ (wAW hk) i hi
  have hpd:=hp.d0 i (by rw [<- hb,hr];exact hi2)
  have hll:=hp.len _ (wAW (l:=p.Race.Times) (k:=i) (by have:=hp.t;rw [this,<- hb,hr];exact hi2))
  have hdn:=hd i hi2 hout
  rw [hr] at hb
  unfold rA
  rw [wBy (by omega) (by omega),nA,hi,hr,wAX hi2,nA,wBy (by omega) (by omega),nA,nN]
  obtain ⟨x,ex,hx⟩:=wRu hp (i:Int) (gd p.done i) t hpd.1 (by omega)
  rw [ex,nA]
  rcases hx with ⟨_,h5⟩ | ⟨j,h4,h5,h6,h7⟩
  ·exact absurd hj0 (h5 j0 hj0.1)
  ·subst h4
   have hj:j < r.Bibs.length:=by rw [hb];exact h5
   rw [wAX hj,nA,wDM (by rw [hs];simp;omega),nA]
   refine ⟨_,rfl,e ++ [⟨gd r.Bibs i,gd p.done i,t,gd r.Bibs j⟩],by rw [hs,ng],by simp [h2],fun q hq=>?_⟩
   by_cases c:q=k
   ·subst c
    have eg:gd (e ++ [(⟨gd r.Bibs i,gd p.done i,t,gd r.Bibs j⟩:wAG)]) q=⟨gd r.Bibs i,gd p.done i,t,gd r.Bibs j⟩:=by rw [<- h2,wMa]
    rw [eg,hi,nN]
    refine ⟨rfl,rfl,hdn,j,rfl,(hL i j hi2 hout).1 h6,fun k hk=>?_⟩
    have hk2:=(hL i k hi2 hout).2 hk
    rw [hr] at h7
    exact h7 k hk2.1 hk2
   ·rw [wPF (by omega)]
    exact h3 q (by omega))
 exact ⟨es,by rw [e,h1],h2,h3⟩
theorem rO_is {z:List Int} {n:Nat} (hz:∀ x ∈ z,0 <= x/\x < n) (hzl:z.length <= 60) {o:List Bool} (ho:o.length=n):∃ o',wCE 0 (↑z.length:Int) (rO z) o=some o'/\o'.length=n/\∀ i:Nat,i < n->gd o' i=if (i:Int) ∈ z then true else gd o i:=by
 obtain ⟨o',e,h1,h2⟩:=wEm (body:=rO z) (n:=z.length) (s0:=o) (fun k o'=>o'.length=n/\∀ i:Nat,i < n->gd o' i=if (i:Int) ∈ z.take k then true else gd o i) (by omega) ⟨ho,fun i _=>by simp⟩ (fun k s hk ⟨h1,h2⟩=>by
  have hr:=hz _ (wAW hk)
  unfold rO
  rw [wBy (by omega) (by omega),nA,wBy (by omega) (by omega),nA]
  refine ⟨_,rfl,by simpa using h1,fun i hi=>?_⟩
  rw [wIW (by omega) (by omega),h2 i hi,wBo hk]
  by_cases c:i=(gd z k).toNat
  ·rw [if_pos c,if_pos (by rw [nS,nQ];right;omega)]
  ·rw [if_neg c]
   have:((i:Int) ∈ z.take k ++ [gd z k]) ↔ (i:Int) ∈ z.take k:=by
    rw [nS,nQ]
    exact ⟨fun h=>h.elim id fun h=>absurd h (by omega),.inl⟩
   simp only [this])
 exact ⟨o',e,h1,fun i hi=>by rw [h2 i hi,nE]⟩
structure Times (r:wAF) (L:List Int):Prop where
 inc:L.Pairwise (· < ·)
 all:∀ x,x ∈ L ↔ ∃ l ∈ r.Times,x ∈ l
 len:L.length <= 1200
theorem wQg {L:List Int} (hL:L.Pairwise (· < ·)) (h0:∀ x ∈ L,0 <= x) {k:Nat} (hk:k < L.length):wIR L k < gd L k/\(∀ x ∈ L.take k,x <= wIR L k/\x < gd L k)/\∀ x ∈ L,wIR L k < x->gd L k <= x:=by
 have mono:∀ i j,i < j->j < L.length->gd L i < gd L j:=fun i j hij hj=>by
  have:=nD.1 hL i j (by omega) hj hij
  rwa [<- wCv (by omega),<- wCv hj] at this
 have le:∀ i j,i <= j->j < L.length->gd L i <= gd L j:=fun i j hij hj=>by
  by_cases e:i=j
  ·subst e;exact nU _
  ·exact kO (mono i j (by omega) hj)
 unfold wIR
 refine ⟨?_,fun x hx=>?_,fun x hx hlt=>?_⟩
 ·split
  ·have:=h0 _ (wAW hk);omega
  ·exact mono _ _ (by omega) hk
 ·obtain ⟨i,hi,e⟩:=nH hx
  rw [nT] at hi
  rw [List.getElem_take,<- wCv (by omega)] at e
  subst e
  rw [if_neg (by omega)]
  exact ⟨le _ _ (by omega) (by omega),mono _ _ (by omega) hk⟩
 ·obtain ⟨i,hi,e⟩:=nH hx
  rw [<- wCv hi] at e
  subst e
  rcases nu i k with c | c
  ·exfalso
   rw [if_neg (by omega)] at hlt
   have:=le i (k - 1) (by omega) (by omega)
   omega
  ·exact le _ _ c hi
theorem wPP {r:wAF} (G:wGQ r) {L:List Int} (hT:Times r L) {k:Nat} (hk:k < L.length) {s:RS} (I:RInv r L k s):∃ s',rB s (gd L k)=some (.inl s')/\RInv r L (k + 1) s':=by
 obtain ⟨A,laps,bibs,times,done,out⟩:=s
 obtain ⟨e1,e2,e3,dl,ol,al,τ,to,td,tx,te⟩:=I
 simp only at e1 e2 e3 dl ol al to td te
 subst e1 e2 e3
 have hn:=G.n
 have hrt:=G.t
 have hpos:∀ x ∈ L,0 <= x:=fun x hx=>by
  obtain ⟨l,hl,hx⟩:=(hT.all x).1 hx
  exact (G.pos l hl x hx).1
 obtain ⟨lt1,lt2,lt3⟩:=wQg hT.inc hpos hk
 have hkl:=hT.len
 generalize ht:gd L k=t at lt1 lt2 lt3 ⊢
 have tin:∀ i,i < r.Bibs.length->gd r.Times i ∈ r.Times:=fun i hi=>wAW (by omega)
 let p:wAL:=⟨r,done,out⟩
 have Gp:wLA p:=⟨by show done.length <= 60;omega,by show out.length=done.length;omega,by show r.Bibs.length=done.length;omega,by show r.Times.length=done.length;omega,fun i hi=>by
  have hi':i < r.Bibs.length:=by rw [<- dl];exact hi
  show 0 <= gd done i/\gd done i <= ((gd r.Times i).length:Int)
  rw [td i hi']
  have:=wJl (gd r.Times i) ((τ i).getD (wIR L k))
  omega,fun l hl=>by have:=G.len l hl;omega⟩
 obtain ⟨z,y,ez,yl,yn,Gy,zp,zi⟩:=wQf Gp t
 have yl':y.length=r.Bibs.length:=by rw [yl];exact dl
 have outN:∀ i,i < r.Bibs.length->(gd out i=false ↔ τ i=none):=fun i hi=>by
  rw [to i hi]
  cases τ i <;> simp
 have yv:∀ i,i < r.Bibs.length->gd y i=cn (gd r.Times i) ((τ i).getD t):=fun i hi=>by
  have h1:=yn i (by rw [dl];exact hi)
  rw [h1]
  unfold nx
  show (if gd out i=false/\gd done i < ((gd r.Times i).length:Int)/\gd (gd r.Times i) (gd done i).toNat=t then gd done i + 1 else gd done i)=_
  cases hτ:τ i with
  | some s =>
   have ho:gd out i=true:=by rw [to i hi,hτ];rfl
   rw [if_neg (fun h=>by rw [ho] at h;exact nr h.1),td i hi,hτ]
   rfl
  | none =>
   have ho:gd out i=false:=(outN i hi).2 hτ
   have hd:=td i hi
   rw [hτ] at hd
   simp only [nj] at hd ⊢
   rw [wQe (G.inc _ (tin i hi)) lt1 (fun x hx hlt=>lt3 x ((hT.all x).2 ⟨_,tin i hi,hx⟩) hlt),hd]
   by_cases c:cn (gd r.Times i) (wIR L k) < (gd r.Times i).length/\gd (gd r.Times i) (cn (gd r.Times i) (wIR L k))=t
   ·rw [if_pos c,if_pos ⟨ho,by omega,by rw [nN];exact c.2⟩]
    omega
   ·rw [if_neg c,if_neg (fun h=>c ⟨by omega,by have:=h.2.2;rwa [nN] at this⟩)]
 have nbN:∀ j,j < r.Bibs.length->(nbf τ j t ↔ τ j=none):=fun j hj=>by
  constructor
  ·intro h
   cases hτ:τ j with
   | none=>rfl
   | some s =>
    have h1:=h s hτ
    have h2:=lt2 s (tx.in_ j s hj hτ)
    omega
  ·intro h s hs;rw [h] at hs;cases hs
 have lapN:∀ i j,i < r.Bibs.length->gd out i=false->(Lp (⟨r,y,out⟩:wAL) (gd y i) t j ↔ lap r τ i t j):=fun i j hi ho=>by
  have yi:gd y i=cn (gd r.Times i) t:=by rw [yv i hi,(outN i hi).1 ho];rfl
  unfold Lp lap
  show (j < y.length/\gd out j=false/\gd y i + 2 <= gd y j/\gd (gd r.Times j) (gd y j - 1).toNat=t) ↔ _
  rw [yl']
  constructor
  ·rintro ⟨hj,h1,h2,h3⟩
   have hτ:=(outN j hj).1 h1
   have yj:gd y j=cn (gd r.Times j) t:=by rw [yv j hj,hτ];rfl
   rw [yi,yj] at h2
   rw [yj] at h3
   have hle:=wJl (gd r.Times j) t
   refine ⟨hj,(nbN j hj).2 hτ,?_,by omega⟩
   have hm:=wAW (l:=gd r.Times j) (k:=((cn (gd r.Times j) t:Nat) - 1:Int).toNat) (by omega)
   rwa [h3] at hm
  ·rintro ⟨hj,h1,h2,h3⟩
   have hτ:=(nbN j hj).1 h1
   have yj:gd y j=cn (gd r.Times j) t:=by rw [yv j hj,hτ];rfl
   obtain ⟨c1,c2,c3⟩:=wPz (G.inc _ (tin j hj)) h2
   refine ⟨hj,(outN j hj).2 hτ,by rw [yi,yj];omega,?_⟩
   rw [yj,show (((cn (gd r.Times j) t:Nat):Int) - 1).toNat=cn (gd r.Times j) t - 1 by omega]
   exact c3
 have zin:∀ x,x ∈ z ↔ ∃ i:Nat,x=i/\i < r.Bibs.length/\τ i=none/\∃ j,lap r τ i t j:=fun x=>by
  rw [zi]
  constructor
  ·rintro ⟨i,h1,h2,h3,j,h4⟩
   have hi:i < r.Bibs.length:=by rw [<- dl];exact h2
   exact ⟨i,h1,hi,(outN i hi).1 h3,j,(lapN i j hi h3).1 h4⟩
  ·rintro ⟨i,h1,hi,h3,j,h4⟩
   exact ⟨i,h1,by rw [<- dl] at hi;exact hi,(outN i hi).2 h3,j,(lapN i j hi ((outN i hi).2 h3)).2 h4⟩
 have zl:z.length <= 60:=by
  have key:∀ m,m < z.length->(m:Int) <= gd z m:=by
   intro m
   induction m with
   | zero =>
    intro hm
    obtain ⟨i,h1,_⟩:=(zin _).1 (wAW hm)
    omega
   | succ m ih =>
    intro hm
    have h3:=ih (by omega)
    have h4:=nD.1 zp m (m + 1) (by omega) hm (by omega)
    rw [<- wCv (by omega),<- wCv hm] at h4
    omega
  rcases nu 60 z.length with c | c
  ·have h5:=key 60 c
   obtain ⟨i,h1,h2,_⟩:=(zin _).1 (wAW c)
   omega
  ·exact c
 obtain ⟨E,eE,El,Ee⟩:=rA_is (τ:=τ) G (p:=⟨r,y,out⟩) Gy rfl (t:=t) (z:=z) (fun x hx=>by
   obtain ⟨i,h1,h2,h3,j,h4⟩:=(zin x).1 hx
   exact ⟨i,h1,h2,j,(lapN i j h2 ((outN i h2).2 h3)).2 h4⟩) lapN (fun x hx i hi=>by
   obtain ⟨i',h1,h2,h3,_⟩:=(zin x).1 hx
   have:i=i':=by omega
   subst this
   exact (outN i h2).2 h3) (fun i hi ho=>by
   show gd y i=_
   rw [yv i hi,(outN i hi).1 ho];rfl) zl (a:=A) (by omega)
 obtain ⟨o',eo,ol',oi⟩:=rO_is (n:=r.Bibs.length) (z:=z) (fun x hx=>by
  obtain ⟨i,h1,h2,_⟩:=(zin x).1 hx
  omega) zl (o:=out) ol
 have er:rB (A,r.Laps,r.Bibs,r.Times,done,out) t=some (.inl (A ++ E,r.Laps,r.Bibs,r.Times,y,o')):=by
  unfold rB
  simp only
  rw [show wBb (⟨(⟨r.Laps,r.Bibs,r.Times⟩:wAF),done,out⟩:wAL) t=some (z,(⟨r,y,out⟩:wAL)) from ez,nA]
  simp only
  rw [eE,nA,eo,nA]
 obtain ⟨τ',hτ1,hτ2⟩:∃ τ':Nat->Option Int,(∀ i:Nat,(i:Int) ∈ z->τ' i=some t)/\∀ i:Nat,¬ (i:Int) ∈ z->τ' i=τ i:=⟨fun i=>if (i:Int) ∈ z then some t else τ i,fun i hi=>if_pos hi,fun i hi=>if_neg hi⟩
 refine ⟨_,er,rfl,rfl,rfl,yl',ol',by simp only [nY];omega,τ',fun i hi=>?_,fun i hi=>?_,?_,?_⟩
 ·simp only
  rw [oi i hi]
  by_cases c:(i:Int) ∈ z
  ·rw [if_pos c,hτ1 i c];rfl
  ·rw [if_neg c,hτ2 i c];exact to i hi
 ·simp only
  rw [yv i hi]
  have hl:wIR L (k + 1)=t:=by unfold wIR;rw [if_neg (by omega)];exact ht
  rw [hl]
  by_cases c:(i:Int) ∈ z
  ·rw [hτ1 i c]
   obtain ⟨i',h1,h2,h3,_⟩:=(zin _).1 c
   have:i=i':=by omega
   subst this
   rw [h3];rfl
  ·rw [hτ2 i c]
 ·
  have h1:∀ i:Nat,(i:Int) ∈ z->τ' i=some t/\τ i=none:=fun i hi=>by
   obtain ⟨i',h1,_,h3,_⟩:=(zin _).1 hi
   have:i=i':=by omega
   subst this
   exact ⟨hτ1 i hi,h3⟩
  have h2:∀ i:Nat,¬ (i:Int) ∈ z->τ' i=τ i:=hτ2
  have tk:∀ u,u ∈ L.take (k + 1) ↔ u ∈ L.take k \/ u=t:=fun u=>by rw [wBo hk,nS,nQ,ht]
  refine ⟨fun i u hi hu=>?_,fun i hi u hu hnb=>?_⟩
  ·rw [tk]
   by_cases c:(i:Int) ∈ z
   ·have:=(h1 i c).1
    rw [this] at hu
    right
    exact (nW hu).symm
   ·rw [h2 i c] at hu
    exact .inl (tx.in_ i u hi hu)
  ·rcases (tk u).1 hu with hu | hu
   ·have hut:=(lt2 u hu).2
    rw [wJY (z:=fun i:Nat=>(i:Int) ∈ z) h1 h2 (kO hut)] at hnb
    have:=tx.iff i hi u hu hnb
    simp only [wEt (r:=r) (z:=fun i:Nat=>(i:Int) ∈ z) h1 h2 (kO hut)]
    rw [<- this]
    by_cases c:(i:Int) ∈ z
    ·rw [(h1 i c).1,(h1 i c).2]
     exact ⟨fun h=>by have:=nW h;omega,fun h=>by cases h⟩
    ·rw [h2 i c]
   ·subst hu
    rw [wJY (z:=fun i:Nat=>(i:Int) ∈ z) h1 h2 (nU _),nbN i hi] at hnb
    simp only [wEt (r:=r) (z:=fun i:Nat=>(i:Int) ∈ z) h1 h2 (nU _)]
    constructor
    ·intro h
     by_cases c:(i:Int) ∈ z
     ·obtain ⟨i',g1,_,_,g4⟩:=(zin _).1 c
      have:i=i':=by omega
      subst this
      exact g4
     ·rw [h2 i c,hnb] at h;cases h
    ·intro h
     exact (h1 i ((zin _).2 ⟨i,rfl,hi,hnb,h⟩)).1
 ·have h1:∀ i:Nat,(i:Int) ∈ z->τ' i=some t/\τ i=none:=fun i hi=>by
   obtain ⟨i',h1,_,h3,_⟩:=(zin _).1 hi
   have:i=i':=by omega
   subst this
   exact ⟨hτ1 i hi,h3⟩
  have h2:∀ i:Nat,¬ (i:Int) ∈ z->τ' i=τ i:=hτ2
  have hA:∀ o ∈ A,∃ i,i < r.Bibs.length/\Ent r τ i o/\¬ (i:Int) ∈ z/\o.Time <= t:=fun o ho=>by
   obtain ⟨i,hi,hE⟩:=te.of o ho
   refine ⟨i,hi,hE,fun c=>?_,kO (lt2 _ (tx.in_ i _ hi hE.time)).2⟩
   have:=(h1 i c).2
   rw [hE.time] at this
   cases this
  have hE:∀ q,q < z.length->∃ i:Nat,gd z q=i/\i < r.Bibs.length/\τ i=none/\(i:Int) ∈ z:=fun q hq=>by
   obtain ⟨i,g1,g2,g3,_⟩:=(zin _).1 (wAW hq)
   exact ⟨i,g1,g2,g3,g1 ▸ wAW hq⟩
  refine ⟨fun o ho=>?_,fun i hi hτ=>?_,?_⟩
  ·rcases nS.1 ho with ho | ho
   ·obtain ⟨i,hi,he,hz,hot⟩:=hA o ho
    obtain ⟨j,j1,j2,j3⟩:=he.by_
    refine ⟨i,hi,he.bib,by rw [h2 i hz];exact he.time,he.done,j,j1,(wEt (z:=fun i:Nat=>(i:Int) ∈ z) h1 h2 hot i j).2 j2,fun q hq=>j3 q ((wEt (z:=fun i:Nat=>(i:Int) ∈ z) h1 h2 hot i q).1 hq)⟩
   ·obtain ⟨q,hq,eq⟩:=nH ho
    rw [<- wCv hq] at eq
    subst eq
    obtain ⟨i,g1,g2,_,g4⟩:=hE q (by omega)
    obtain ⟨b1,b2,b3,j,j1,j2,j3⟩:=Ee q (by omega)
    rw [g1,nN] at b1 b3 j2
    refine ⟨i,g2,b1,by rw [b2];exact (h1 i g4).1,by rw [b2];exact b3,j,j1,by rw [b2];exact (wEt (z:=fun i:Nat=>(i:Int) ∈ z) h1 h2 (nU _) i j).2 j2,fun q' hq'=>?_⟩
    rw [b2] at hq'
    have:=j3 q' (by rw [g1,nN];exact (wEt (z:=fun i:Nat=>(i:Int) ∈ z) h1 h2 (nU _) i q').1 hq')
    exact this
  ·by_cases c:(i:Int) ∈ z
   ·obtain ⟨q,hq,eq⟩:=nH c
    rw [<- wCv hq] at eq
    refine ⟨gd E q,List.mem_append_right _ (wAW (by omega)),?_⟩
    rw [(Ee q hq).1,eq,nN]
   ·rw [hτ2 i c] at hτ
    obtain ⟨o,ho,e⟩:=te.all i hi hτ
    exact ⟨o,List.mem_append_left _ ho,e⟩
  ·rw [nL,nc]
   refine ⟨te.one,?_,fun a ha b hb e=>?_⟩
   ·rw [nK,nD]
    intro a b ha hb hab e
    rw [nI] at ha hb
    rw [nJ,nJ,<- wCv ha,<- wCv hb,(Ee a (by omega)).1,(Ee b (by omega)).1] at e
    obtain ⟨i,g1,g2,_⟩:=hE a (by omega)
    obtain ⟨j,g3,g4,_⟩:=hE b (by omega)
    rw [g1,g3,nN,nN] at e
    have:=wGu G g2 g4 e
    have h4:=nD.1 zp a b (by omega) (by omega) hab
    rw [<- wCv (by omega),<- wCv (by omega)] at h4
    omega
   ·obtain ⟨o,ho,e1⟩:=na.1 ha
    obtain ⟨i,hi,he,hz,_⟩:=hA o ho
    obtain ⟨o2,ho2,e2⟩:=na.1 hb
    obtain ⟨q,hq,eq⟩:=nH ho2
    rw [<- wCv hq] at eq
    subst eq
    obtain ⟨j,g3,g4,_,g5⟩:=hE q (by omega)
    rw [(Ee q (by omega)).1,g3,nN] at e2
    have:=wGu G hi g4 (by rw [<- he.bib,e1,e,e2])
    subst this
    exact hz g5
theorem wJm {zs:List Int} (h:zs.Pairwise (· <= ·)):(Go.Lib.compact zs).Pairwise (· < ·)/\(∀ x,x ∈ Go.Lib.compact zs ↔ x ∈ zs)/\(Go.Lib.compact zs).length <= zs.length:=by
 have hg:∀ i,i < zs.length->(zs.toArray[i]!)=gd zs i:=fun i hi=>by
  rw [getElem!_pos zs.toArray i (by simpa using hi),wCv hi];simp
 have le:∀ i j,i <= j->j < zs.length->gd zs i <= gd zs j:=fun i j hij hj=>by
  by_cases e:i=j
  ·subst e;exact nU _
  ·have:=nD.1 h i j (by omega) hj (by omega)
   rwa [<- wCv (by omega),<- wCv hj] at this
 have key:∀ m,m <= zs.length->(Go.Lib.compactUpTo zs.toArray m).Pairwise (· < ·)/\(∀ x,x ∈ Go.Lib.compactUpTo zs.toArray m ↔ ∃ j,j < m/\gd zs j=x)/\(Go.Lib.compactUpTo zs.toArray m).length <= m:=by
  intro m
  induction m with
  | zero=>intro _;exact ⟨by simp [Go.Lib.compactUpTo],fun x=>by simp [Go.Lib.compactUpTo],by simp [Go.Lib.compactUpTo]⟩
  | succ m ih =>
   intro hm
   obtain ⟨h1,h2,h3⟩:=ih (by omega)
   rw [Go.Lib.compactUpTo_succ]
   by_cases c:Go.Lib.keeps zs.toArray m=true
   ·rw [if_pos c,hg m (by omega)]
    refine ⟨?_,fun x=>?_,by simp;omega⟩
    ·rw [nv]
     refine ⟨h1,kP _ _,fun a ha b hb=>?_⟩
     obtain ⟨j,hj,e⟩:=(h2 a).1 ha
     have hb':=nQ.1 hb
     unfold Go.Lib.keeps at c
     simp only [decide_eq_true_iff] at c
     rcases c with c | c
     ·omega
     ·rw [hg m (by omega),hg (m - 1) (by omega)] at c
      have l1:=le j (m - 1) (by omega) (by omega)
      have l2:=le (m - 1) m (by omega) (by omega)
      omega
    ·rw [nS,nQ,h2]
     constructor
     ·rintro (⟨j,hj,e⟩ | e)
      ·exact ⟨j,by omega,e⟩
      ·exact ⟨m,by omega,e.symm⟩
     ·rintro ⟨j,hj,e⟩
      by_cases ej:j=m
      ·subst ej;exact .inr e.symm
      ·exact .inl ⟨j,by omega,e⟩
   ·rw [if_neg c,List.append_nil]
    refine ⟨h1,fun x=>?_,by omega⟩
    have m0:m ≠ 0/\gd zs m=gd zs (m - 1):=by
     unfold Go.Lib.keeps at c
     simp only [decide_eq_true_iff,not_or,ne_eq,Decidable.not_not] at c
     have:=c.2
     rw [hg m (by omega),hg (m - 1) (by omega)] at this
     exact ⟨c.1,this⟩
    rw [h2]
    constructor
    ·rintro ⟨j,hj,e⟩
     exact ⟨j,by omega,e⟩
    ·rintro ⟨j,hj,e⟩
     by_cases ej:j=m
     ·subst ej;exact ⟨j - 1,by omega,by rw [<- m0.2];exact e⟩
     ·exact ⟨j,by omega,e⟩
 obtain ⟨h1,h2,h3⟩:=key zs.length (kE _)
 refine ⟨h1,fun x=>?_,h3⟩
 show x ∈ Go.Lib.compactUpTo zs.toArray zs.length ↔ _
 rw [h2]
 constructor
 ·rintro ⟨j,hj,e⟩
  exact e ▸ wAW hj
 ·intro hx
  obtain ⟨j,hj,e⟩:=nH hx
  exact ⟨j,hj,by rw [wCv hj];exact e⟩
theorem wKP {T:List (List Int)} (hl:∀ l ∈ T,l.length <= 20):∀ k,(T.take k).flatten.length <= 20 * k:=by
 intro k
 induction k generalizing T with
 | zero=>simp
 | succ k ih =>
  cases T with
  | nil=>simp
  | cons a T =>
   rw [List.take_succ_cons,List.flatten_cons,nY]
   have:=hl a (by simp)
   have:=ih (T:=T) fun l h=>hl l (by simp [h])
   omega
theorem wLB {T:List (List Int)} {k:Nat} (hk:k < T.length):(T.take (k + 1)).flatten=(T.take k).flatten ++ gd T k:=by
 rw [wBo hk,List.flatten_append];simp
theorem wOS {T:List (List Int)} (hn:T.length <= 60) (hl:∀ l ∈ T,l.length <= 20):wCV T=some T.flatten:=by
 unfold wCV
 have fl:=wKP hl
 obtain ⟨x,ex,hx⟩:=wEm (body:=fun (k7:Nat) (x6:Int) =>
  (idx T (↑k7:Int)).bind fun x29 =>
  if (w64 (x6 + (↑x29.length:Int))) < 0 then
   none
  else
   some (w64 (x6 + (↑x29.length:Int)))) (n:=T.length) (s0:=(0:Int)) (fun k x=>x=((T.take k).flatten.length:Int)) (by omega) (by simp) (fun k x hk hx=>by
  have h1:=hl _ (wAW hk)
  have h2:=fl k
  rw [wAX hk,nA,hx,wAQ (by omega) (by omega),if_neg (by omega)]
  exact ⟨_,rfl,by rw [wLB hk,nY];omega⟩)
 have h60:=fl T.length
 rw [nE] at h60 hx
 have eg:wCt [] x=some []:=by
  unfold wCt
  rw [if_neg (by omega),wAQ (by omega) (by omega)]
  by_cases c:0 < x - 0
  ·rw [if_pos c,appZ,if_pos (by omega)];rfl
  ·rw [if_neg c]
 have e2:=wBs (body:=fun (k86:Nat) (l83:List Int) =>
  (idx T (↑k86:Int)).bind fun x107 =>
  (app 8 l83 x107).bind fun x122 =>
  some x122) (n:=T.length) (s0:=[]) (fun k=>(T.take k).flatten) (by simp) (by omega) (fun i hi=>by
  have h1:=hl _ (wAW hi)
  have h2:=fl i
  rw [wAX hi,nA,wDM (by omega),nA,wLB hi])
 rw [nE] at e2
 rw [ex,nA,eg,nA,e2,nA]
theorem wPQ {r:wAF} (G:wGQ r):∃ L,wCy r=some L/\Times r L:=by
 unfold wCy
 have hn:=G.n
 have hl:=wKP G.len r.Times.length
 rw [nE] at hl
 have ht:=G.t
 rw [wOS (by omega) G.len,nA]
 have e1:wDY r.Times.flatten=some (r.Times.flatten.mergeSort fun x y=>decide (x <= y)):=by
  unfold wDY wOs
  exact if_pos (by omega)
 rw [e1,nA]
 have hp:=ny r.Times.flatten fun x y=>decide (x <= y)
 have so:=nn (le:=fun x y:Int=>decide (x <= y)) (fun a b c h1 h2=>by simp at h1 h2 ⊢;omega) (fun a b=>by simp;omega) r.Times.flatten
 have hlen:=hp.length_eq
 generalize r.Times.flatten.mergeSort (fun x y=>decide (x <= y))=M at hp so hlen
 obtain ⟨c1,c2,c3⟩:=wJm (zs:=M) (so.imp fun h=>by simpa using h)
 have e2:wCx M=some (Go.Lib.compact M):=by
  unfold wCx wIr
  exact if_pos (by omega)
 rw [e2,nA]
 unfold wDK
 refine ⟨_,rfl,c1,fun x=>?_,by omega⟩
 rw [c2,hp.mem_iff,List.mem_flatten]
def ltO (a b:wAG):Prop:=a.Time < b.Time \/ a.Time=b.Time/\a.Bib < b.Bib
instance (a b:wAG):Decidable (ltO a b):=by unfold ltO;exact inferInstance
theorem cmpO (a b:wAG):wBW a b=some (if a.Time < b.Time then -1 else if b.Time < a.Time then 1 else if a.Bib < b.Bib then -1 else if b.Bib < a.Bib then 1 else 0):=by
 have hc:∀ x y:Int,wAy x y=some (if x < y then -1 else if y < x then 1 else 0):=fun x y=>by
  unfold wAy wDl
  simp only [not_true_eq_false,decide_false,nA,nl,if_false]
  split
  ·rfl
  ·split <;> rfl
 have ho:∀ x y:Int,wDZ [x,y]=some (if x=0 then y else x):=fun x y=>by
  unfold wDZ
  rw [wDo (by simp)]
  show jn (forN _ 2 0 ()) _=_
  have i0:idx [x,y] ((0:Nat):Int)=some x:=rfl
  have i1:idx [x,y] ((0 + 1:Nat):Int)=some y:=rfl
  simp only [forN,i0,i1,nA]
  by_cases c:x=0
  ·simp only [if_pos c]
   by_cases d:y=0
   ·simp only [if_pos d,d];rfl
   ·simp only [if_neg d];rfl
  ·simp only [if_neg c];rfl
 unfold wBW
 rw [hc,nA,hc,nA,ho,nA]
 by_cases c1:a.Time < b.Time
 ·simp [c1]
 ·by_cases c2:b.Time < a.Time
  ·simp [c1,c2]
  ·simp only [c1,c2,if_false,if_true]
structure RunP (r:wAF) (D:List Int) (A:List wAG) (τ:Nat->Option Int):Prop where
 dl:D.length=r.Bibs.length
 done:∀ i,i < r.Bibs.length->(τ i=none/\gd D i=(gd r.Times i).length) \/ ∃ s,τ i=some s/\gd D i=cn (gd r.Times i) s
 ex:∀ i,i < r.Bibs.length->∀ j,j < r.Bibs.length->∀ t ∈ gd r.Times j,nbf τ i t->(τ i=some t ↔ ∃ k,lap r τ i t k)
 in_:∀ i s,i < r.Bibs.length->τ i=some s->∃ l ∈ r.Times,s ∈ l
 ents:Ents r τ A
 ord:A.Pairwise ltO
 al:A.length <= 100000
theorem wQA {r:wAF} (G:wGQ r):∃ p A τ,wDh r=some (p,A)/\RunP r p.done A τ:=by
 rw [wNS]
 have hn:=G.n
 have ht:=G.t
 rw [mkz,if_pos (by omega),nA,mkz,if_pos (by omega),nA,nA]
 simp only
 obtain ⟨L,eL,hT⟩:=wPQ G
 rw [eL,nA]
 have hpos:∀ x ∈ L,0 <= x:=fun x hx=>by
  obtain ⟨l,hl,hx⟩:=(hT.all x).1 hx
  exact (G.pos l hl x hx).1
 have hll:=hT.len
 obtain ⟨⟨A,laps,bibs,times,done,out⟩,e,I⟩:=wOR (f:=rB) (L:=L) (s0:=([],r.Laps,r.Bibs,r.Times,kA (r.Bibs.length:Int).toNat 0,kA (r.Bibs.length:Int).toNat false)) (RInv r L) (by omega) ⟨rfl,rfl,rfl,by simp,by simp,by simp,fun _=>none,fun i hi=>by rw [wCv (by simpa using hi)];simp,fun i hi=>by
   rw [wCv (by simpa using hi)]
   have:cn (gd r.Times i) (-1)=0:=nw.2 fun x hx=>by
    have:=(G.pos _ (wAW (l:=r.Times) (k:=i) (by omega)) x hx).1
    simp;omega
   simp only [nj,wIR,if_true,this,List.getElem_replicate]
   rfl,⟨(fun i s _ h=>by cases h),(fun i _ t ht=>by rw [List.take_zero] at ht;cases ht)⟩,⟨(fun o ho=>by cases ho),(fun i _ h=>absurd rfl h),by simp⟩⟩ (fun k s hk I=>wPP G hT hk I)
 rw [e,nA]
 obtain ⟨e1,e2,e3,dl,ol,al,τ,to,td,tx,te⟩:=I
 simp only at e1 e2 e3 dl ol al to td te
 rw [nE] at tx
 simp only
 have lt:∀ a b:wAG,ltB (fun x:wAG × wAG=>wBW x.1 x.2) a b=decide (ltO a b):=fun a b=>by
  unfold ltB ltO
  simp only [cmpO]
  by_cases c1:a.Time < b.Time
  ·simp [c1]
  ·by_cases c2:b.Time < a.Time
   ·simp [c1,c2];omega
   ·have c3:a.Time=b.Time:=by omega
    by_cases c4:a.Bib < b.Bib
    ·simp [c3,c4]
    ·by_cases c5:b.Bib < a.Bib <;> simp [c3,c4,c5]
 have one:∀ x ∈ A,∀ y ∈ A,x.Bib=y.Bib->x=y:=fun x hx y hy e=>by
  obtain ⟨i,hi,ei⟩:=nH hx
  obtain ⟨j,hj,ej⟩:=nH hy
  have pw:=nD.1 (nK.1 te.one)
  rcases kJ i j with c | c | c
  ·have:=pw i j (by simpa using hi) (by simpa using hj) c
   rw [nJ,nJ,ei,ej] at this
   exact absurd e this
  ·subst c;rw [<- ei,<- ej]
  ·have:=pw j i (by simpa using hj) (by simpa using hi) c
   rw [nJ,nJ,ei,ej] at this
   exact absurd e.symm this
 have C:Cmp (fun x:wAG × wAG=>wBW x.1 x.2) A:=by
  refine ⟨by omega,fun x _ y _=>by show (wBW x y).isSome=true;rw [cmpO];rfl,fun x _=>by rw [lt];simp [ltO],fun x _ y _ w _ a b=>?_,fun x _ y _ w _ a b=>?_,fun x hx y hy a b=>?_⟩
  ·rw [lt] at a b ⊢
   simp only [decide_eq_true_iff] at a b ⊢
   simp only [ltO] at a b ⊢
   omega
  ·rw [lt] at a b ⊢
   simp only [decide_eq_false_iff_not] at a b ⊢
   simp only [ltO] at a b ⊢
   omega
  ·rw [lt] at a b
   simp only [decide_eq_false_iff_not] at a b
   simp only [ltO] at a b
   exact one x hx y hy (by omega)
 unfold wBG
 rw [wMV C,nA]
 have hp:=ny A fun x y=>!ltB (fun x:wAG × wAG=>wBW x.1 x.2) y x
 have so:=nn (le:=fun x y:wAG=>!ltB (fun x:wAG × wAG=>wBW x.1 x.2) y x) (fun a b c h1 h2=>by
   rw [lt] at h1 h2 ⊢
   simp only [nR,decide_eq_false_iff_not] at h1 h2 ⊢
   simp only [ltO] at h1 h2 ⊢
   omega) (fun a b=>by
   rw [lt,lt]
   simp only [Bool.or_eq_true,nR,decide_eq_false_iff_not]
   simp only [ltO]
   omega) A
 generalize A.mergeSort (fun x y=>!ltB (fun x:wAG × wAG=>wBW x.1 x.2) y x)=A' at hp so
 refine ⟨_,A',τ,rfl,dl,fun i hi=>?_,fun i hi j hj t htj=>tx.iff i hi t ((hT.all t).2 ⟨_,wAW (by omega),htj⟩),fun i s hi hs=>(hT.all s).1 (tx.in_ i s hi hs),⟨fun o ho=>te.of o (hp.mem_iff.1 ho),fun i hi h=>?_,(hp.map _).nodup_iff.2 te.one⟩,?_,by have:=hp.length_eq;omega⟩
 ·have hd:=td i hi
  cases hτ:τ i with
  | some s =>
   right
   refine ⟨s,rfl,?_⟩
   rw [hd,hτ];rfl
  | none =>
   left
   refine ⟨rfl,?_⟩
   show gd done i=_
   rw [hd,hτ]
   have:cn (gd r.Times i) (wIR L L.length)=(gd r.Times i).length:=by
    refine List.countP_eq_length.2 fun x hx=>?_
    have hxl:x ∈ L:=(hT.all x).2 ⟨_,wAW (by omega),hx⟩
    obtain ⟨q,hq,eq⟩:=nH hxl
    rw [<- wCv hq] at eq
    unfold wIR
    rw [if_neg (by omega),<- eq]
    by_cases c:q=L.length - 1
    ·subst c;simp
    ·have:=nD.1 hT.inc q (L.length - 1) hq (by omega) (by omega)
     rw [<- wCv hq,<- wCv (by omega)] at this
     simp;omega
   rw [nj,this]
 ·obtain ⟨o,ho,e⟩:=te.all i hi h
  exact ⟨o,hp.mem_iff.2 ho,e⟩
 ·have nd:=(hp.map (·.Bib)).nodup_iff.2 te.one
  refine (so.and (kI.1 (nK.1 nd))).imp fun {a b} h=>?_
  obtain ⟨h1,h2⟩:=h
  rw [lt] at h1
  simp only [nR,decide_eq_false_iff_not] at h1 ⊢
  simp only [ltO] at h1 ⊢
  omega
theorem wHw {K V:Type} [DecidableEq K] {m:List (K × V)} {x y:K} {v:V}:wIz (wFf m x v) y=if y=x then some v else wIz m y:=by
 induction m with
 | nil=>simp only [wFf,wIz]
 | cons p m ih =>
  obtain ⟨a,u⟩:=p
  rw [wFf]
  by_cases h:x=a
  ·subst h
   rw [if_pos rfl,wIz,wIz]
   split <;> rfl
  ·rw [if_neg h,wIz,wIz,ih]
   by_cases h2:y=a
   ·rw [if_pos h2,if_neg (fun e:y=x=>h (e.symm.trans h2)),if_pos h2]
   ·rw [if_neg h2,if_neg h2]
theorem wPR {l:List Int} (hl:l.length <= 1000) (hd:l.Nodup):wDp l=some false:=by
 unfold wDp
 rw [wDo (by omega)]
 have key:∀ (m k:Nat) (t:List (Int × Bool)),k + m=l.length->(∀ n,wEJ t n false=decide (n ∈ l.take k)) ->
   jn (forN (fun k20 l17 =>
  (idx l (↑k20:Int)).bind fun x41 =>
  if (wEJ l17 x41 false)=true then
   esc (some true)
  else
   some (.inl (wFf l17 x41 true))) m k t) (fun _=>some false)=some false:=by
  intro m
  induction m with
  | zero=>intro k t _ _;rfl
  | succ m ih =>
   intro k t hk ht
   have hlt:k < l.length:=by omega
   have c:gd l k ∉ l.take k:=fun c=>by
    rw [<- nt k l,wIM hlt] at hd
    exact (nc.1 hd).2.2 _ c _ (by simp) rfl
   rw [forN,wAX hlt,nA,ht,if_neg (by simpa using c)]
   simp only
   refine ih (k + 1) _ (by omega) fun n=>?_
   unfold wEJ at ht ⊢
   rw [wHw,wBo hlt]
   by_cases e:n=gd l k
   ·rw [if_pos e];simp [e]
   ·rw [if_neg e,ht];simp [e]
 exact key l.length 0 [] (by omega) (fun n=>by simp [wEJ,wIz])
theorem wGR {n lo hi:Int} (h1:lo <= n) (h2:n <= hi):wEK n lo hi=some true:=by
 unfold wEK
 rw [if_pos h1]
 simp [h2]
theorem wLC {l:List (List Int)} {f:List Int->Option Bool} (hn:l.length <= 1000) (h:∀ a ∈ l,f a=some true):wCs l f=some true:=by
 unfold wCs
 rw [wDf (by omega) fun k hk=>?_]
 ·rfl
 ·rw [wAX hk,nA,h _ (wAW hk)]
  rfl
theorem wLD {l:List Int} {f:Int->Option Bool} (hn:l.length <= 1000) (h:∀ a ∈ l,f a=some true):wBY l f=some true:=by
 unfold wBY
 rw [wDf (by omega) fun k hk=>?_]
 ·rfl
 ·rw [wAX hk,nA,h _ (wAW hk)]
  rfl
structure wPS (r:wAF):Prop where
 g:wGQ r
 laps:1 <= r.Laps/\r.Laps <= 20
 le:∀ l ∈ r.Times,(l.length:Int) <= r.Laps
 bib:∀ b ∈ r.Bibs,1 <= b/\b <= 999
theorem wMs {r:wAF} (G:wPS r):wCO r=some 0:=by
  unfold wCO
  have h1:=G.laps;have h2:=G.g.n;have h3:=G.g.t
  rw [wGR h1.1 h1.2,nA,if_pos rfl,if_neg (by omega),if_pos (by omega),wLC (by omega) fun X hX=>?_,nA,if_pos rfl,wLD (by omega) fun b hb=>?_,nA,if_pos rfl,wLC (by omega) fun X hX=>?_,nA,if_pos rfl,wPR (by omega) G.g.one,nA,if_neg (by decide),wDf (by omega) fun k hk=>?_]
  · rfl
  · have hXm:=wAW hk
    rw [wAX hk,nA]
    have hl:=G.g.len _ hXm
    have hpw:=G.g.inc _ hXm
    generalize gd r.Times k=X at hl hpw
    have hle:((X.length:Int) - 1).toNat <= 9223372036854775807:=by omega
    have key:wEh 1 (X.length:Int) (fun k132 (_:Unit) =>
                    (idx X (1 + ↑k132:Int)).bind fun x155 =>
                    (idx X (w64 ((1 + ↑k132:Int) - 1))).bind fun x163 =>
                    if x155 <= x163 then
                      esc (esc (some 4))
                    else
                      (some (.inl ()):Option (Unit ⊕ (Unit ⊕ Int)))) ()=some (.inl ()):=by
      unfold wEh
      rw [if_pos (by omega)]
      have:=wKI (S:=Unit) (B:=Unit ⊕ Int) (body:=fun k132 (_:Unit) =>
                    (idx X (1 + ↑k132:Int)).bind fun x155 =>
                    (idx X (w64 ((1 + ↑k132:Int) - 1))).bind fun x163 =>
                    if x155 <= x163 then
                      esc (esc (some 4))
                    else
                      some (.inl ())) (fun _=>()) ((X.length:Int) - 1).toNat 0 fun j _ hj=>by
        have e1:(1 + (j:Int))=((j + 1:Nat):Int):=by omega
        rw [wAQ (by omega) (by omega),e1,show ((j + 1:Nat):Int) - 1=(j:Int) by omega,wAX (by omega),nA,wAX (by omega),nA,if_neg]
        have:=nD.1 hpw j (j + 1) (by omega) (by omega) (by omega)
        have a1:=wBO (xs:=X) (k:=j) (by omega)
        have a2:=wBO (xs:=X) (k:=j + 1) (by omega)
        rw [kL (by omega)] at a1 a2
        rw [<- nW a1,<- nW a2]
        omega
      exact this
    rw [key]
    rfl
  · have:=G.g.len X hX
    have hr:=G.g.pos X hX
    unfold wCK
    rw [wLD (by omega) fun a ha=>?_]
    · rfl
    · unfold wBZ
      have:=hr a ha
      rw [wGR (by omega) (by omega)]
      rfl
  · have:=G.bib b hb
    unfold wCJ
    rw [wGR this.1 this.2]
    rfl
  · have:=G.le X hX
    unfold wCI
    simp only [Option.some.injEq,decide_eq_true_eq]
    exact this
theorem wLE {r:wAF} (G:wPS r) {p:wAL} {A:List wAG} (h:wDh r=some (p,A)):wCA r=some (A,0):=by
 unfold wCA
 rw [wMs G,nA,if_pos rfl,h];rfl
theorem wJw {r:wAF} (G:wPS r) {p:wAL} {A:List wAG} (h:wDh r=some (p,A)):wCW r=some (p.done,0):=by
 unfold wCW
 rw [wMs G,nA,if_pos rfl,h];rfl
theorem wPT {r:wAD} (g:wGO r):wPS (wDV r):=by
 have hn:=g.n;have hs:=g.start
 have hc:=g.rules.n;have hl:=g.rules.laps
 obtain ⟨L,hL⟩:=Int.eq_ofNat_of_zero_le (show 0 <= r.Rules.Laps by omega)
 have hL5:L <= 5:=by omega
 have e:∀ l ∈ (wDV r).Times,∃ t,t ∈ r.Teams/\l=wEf r.Rules t.Legs r.Start:=fun l h=>by
  obtain ⟨t,ht,e⟩:=na.1 h
  exact ⟨t,ht,e.symm⟩
 have hlen:∀ l ∈ (wDV r).Times,l.length <= r.Rules.Classes.length * L:=fun l h=>by
  obtain ⟨t,ht,rfl⟩:=e l h
  have gt:=g.team t ht
  exact kK (wIQ hL t.Legs r.Start gt.leg) (Nat.mul_le_mul_right L gt.legs)
 have h20:r.Rules.Classes.length * L <= 20:=kK (Nat.mul_le_mul hc.2 hL5) (by omega)
 have hLaps:(wDV r).Laps=((r.Rules.Classes.length * L:Nat):Int):=by
  show (r.Rules.Classes.length:Int) * r.Rules.Laps=_
  rw [hL];simp
 have h1:1 <= r.Rules.Classes.length * L:=Nat.mul_pos hc.1 (by omega)
 refine ⟨⟨?_,?_,fun l h=>by have:=hlen l h;omega,fun l h=>?_,fun l h x hx=>?_,g.bibs⟩,⟨by rw [hLaps];omega,by rw [hLaps];omega⟩,fun l h=>by rw [hLaps];have:=hlen l h;omega,fun b hb=>?_⟩
 ·show (r.Teams.map _).length <= 60
  rw [nI];omega
 ·show (after r).length=(r.Teams.map _).length
  unfold after
  rw [nI,nI]
 ·obtain ⟨t,ht,rfl⟩:=e l h
  exact (wKO g.rules t.Legs r.Start (g.team t ht).leg).1
 ·obtain ⟨t,ht,rfl⟩:=e l h
  have:=(wKO g.rules t.Legs r.Start (g.team t ht).leg).2 x hx
  have:=(g.team t ht).legs
  omega
 ·obtain ⟨t,ht,rfl⟩:=na.1 hb
  exact (g.team t ht).bib
def un (b:List Bool):Int:=if wFZ b < 5 then 8 - (b.length:Int) else 0
def unB:List (List Bool)->Int
 | []=>0
 | b :: l=>un b + unB l
def unT:List wAN->Int
 | []=>0
 | l :: r=>unB l.Bouts + unT r
theorem wKQ {b:List Bool} (h:okB b):0 <= un b/\un b <= 3:=by
 have:=h.1;have:=h.2.1
 unfold un
 split <;> omega
theorem wKR (b:List Bool):∀ l:List (List Bool),unB (l ++ [b])=unB l + un b
 | []=>by simp [unB]
 | a :: l=>by rw [kM,unB,unB,wKR b l];omega
theorem wKS (b:wAN):∀ l:List wAN,unT (l ++ [b])=unT l + unB b.Bouts
 | []=>by simp [unT]
 | a :: l=>by rw [kM,unT,unT,wKS b l];omega
theorem wGq:∀ {l:List (List Bool)},(∀ b ∈ l,okB b)->0 <= unB l/\unB l <= 3 * (l.length:Int)
 | [],_=>by simp [unB]
 | a :: l,h=>by
  have h1:=wKQ (h a (by simp))
  have h2:=wGq (l:=l) fun b hb=>h b (by simp [hb])
  rw [unB,nP]
  omega
theorem wKT {p:wAE} (gp:wEg p) {t:wAH} {l:wAN} (g:wHs p t l):l.Bouts.length <= 4:=by
 have:=g.bouts;have:=g.le;have:=gp.laps
 omega
theorem wGB {p:wAE} (gp:wEg p) {t:wAH}:∀ {l:List wAN},(∀ a ∈ l,wHs p t a)->0 <= unT l/\unT l <= 12 * (l.length:Int)
 | [],_=>by simp [unT]
 | a :: l,h=>by
  have ga:=h a (by simp)
  have h1:=wGq ga.ok
  have h3:=wKT gp ga
  have h2:=wGB gp (l:=l) fun b hb=>h b (by simp [hb])
  rw [unT,nP]
  omega
theorem wOT {p:wAE} (gp:wEg p) {t:wAH} (g:wQU p t):wCo t=some (unT t.Legs):=by
 unfold wCo
 have hl:=g.legs;have hc:=gp.n
 rw [wBs (S:=Int) (n:=t.Legs.length) (fun k=>unT (t.Legs.take k)) (s0:=0) rfl (by omega) fun k hk=>?_]
 ·rw [nA,nE]
 ·have gl:=g.leg _ (wAW hk)
  have h4:=wKT gp gl
  have hr:=wGB gp (l:=t.Legs.take k) fun a ha=>g.leg a (nV ha)
  rw [nT] at hr
  rw [wAX hk,nA]
  rw [wBs (S:=Int) (n:=(gd t.Legs k).Bouts.length) (fun j=>unT (t.Legs.take k) + unB ((gd t.Legs k).Bouts.take j)) (s0:=unT (t.Legs.take k)) (by simp [unB]) (by omega) fun j hj=>?_]
  ·rw [nA,nE,wBo hk,wKS]
  ·have ho:=gl.ok _ (wAW hj)
   have hb:=wGq (l:=(gd t.Legs k).Bouts.take j) fun b hb=>gl.ok b (nV hb)
   have hu:=wKQ ho
   rw [nT] at hb
   rw [wAX hj,nA,wLn ho,nA]
   show (if _=(⟨0,0,0⟩:wAa) then _ else some (w64 (_ + un (gd (gd t.Legs k).Bouts j))))=_
   rw [wBo hj,wKR]
   by_cases e:(⟨((gd (gd t.Legs k).Bouts j).length:Int) - 5,5 - (wFZ (gd (gd t.Legs k).Bouts j):Int),un (gd (gd t.Legs k).Bouts j)⟩:wAa)=⟨0,0,0⟩
   ·have e3:un (gd (gd t.Legs k).Bouts j)=0:=congrArg wAa.Unused e
    refine (if_pos e).trans ?_
    rw [e3,Int.add_zero]
   ·refine (if_neg e).trans ?_
    rw [wAQ (by omega) (by omega),Int.add_assoc]
theorem cmpI (x y:Int):wAy x y=some (if x < y then -1 else if y < x then 1 else 0):=by
 unfold wAy wDl
 simp only [not_true_eq_false,decide_false,nA,nl,if_false]
 split
 ·rfl
 ·split <;> rfl
theorem orI (x y:Int):wDZ [x,y]=some (if x=0 then y else x):=by
 unfold wDZ
 rw [wDo (by simp)]
 show jn (forN _ 2 0 ()) _=_
 have i0:idx [x,y] ((0:Nat):Int)=some x:=rfl
 have i1:idx [x,y] ((0 + 1:Nat):Int)=some y:=rfl
 simp only [forN,i0,i1,nA]
 by_cases c:x=0
 ·simp only [if_pos c]
  by_cases d:y=0
  ·simp only [if_pos d,d];rfl
  ·simp only [if_neg d];rfl
 ·simp only [if_neg c];rfl
def lt2 {α:Type} (k1 k2:α->Int) (a b:α):Prop:=k1 a < k1 b \/ k1 a=k1 b/\k2 a < k2 b
instance {α:Type} (k1 k2:α->Int) (a b:α):Decidable (lt2 k1 k2 a b):=by unfold lt2;exact inferInstance
def wRS {α:Type} (k1 k2:α->Int) (a b:α):Int:=if k1 a < k1 b then -1 else if k1 b < k1 a then 1 else if k2 a < k2 b then -1 else if k2 b < k2 a then 1 else 0
theorem wRw {α:Type} {h:α × α->Option Int} (k1 k2:α->Int) (hh:∀ a b,h (a,b)=some (wRS k1 k2 a b)) {l:List α} (hl:l.length <= 100000) (nd:(l.map k2).Nodup):∃ m,wLe h l=some m/\m.Perm l/\m.Pairwise (lt2 k1 k2):=by
 have lt:∀ a b:α,ltB h a b=decide (lt2 k1 k2 a b):=fun a b=>by
  unfold ltB lt2
  rw [hh]
  unfold wRS
  by_cases c1:k1 a < k1 b
  ·simp [c1]
  ·by_cases c2:k1 b < k1 a
   ·simp [c1,c2];omega
   ·have c3:k1 a=k1 b:=by omega
    by_cases c4:k2 a < k2 b
    ·simp [c3,c4]
    ·by_cases c5:k2 b < k2 a <;> simp [c3,c4,c5]
 have one:∀ x ∈ l,∀ y ∈ l,k2 x=k2 y->x=y:=fun x hx y hy e=>by
  obtain ⟨i,hi,ei⟩:=nH hx
  obtain ⟨j,hj,ej⟩:=nH hy
  have pw:=nD.1 (nK.1 nd)
  rcases kJ i j with c | c | c
  ·have:=pw i j (by simpa using hi) (by simpa using hj) c
   rw [nJ,nJ,ei,ej] at this
   exact absurd e this
  ·subst c;rw [<- ei,<- ej]
  ·have:=pw j i (by simpa using hj) (by simpa using hi) c
   rw [nJ,nJ,ei,ej] at this
   exact absurd e.symm this
 have C:Cmp h l:=by
  refine ⟨by omega,fun x _ y _=>by rw [hh];rfl,fun x _=>by rw [lt];simp [lt2],fun x _ y _ w _ a b=>?_,fun x _ y _ w _ a b=>?_,fun x hx y hy a b=>?_⟩
  ·rw [lt] at a b ⊢
   simp only [decide_eq_true_iff] at a b ⊢
   simp only [lt2] at a b ⊢
   omega
  ·rw [lt] at a b ⊢
   simp only [decide_eq_false_iff_not] at a b ⊢
   simp only [lt2] at a b ⊢
   omega
  ·rw [lt] at a b
   simp only [decide_eq_false_iff_not] at a b
   simp only [lt2] at a b
   exact one x hx y hy (by omega)
 have hp:=ny l fun x y=>!ltB h y x
 have so:=nn (le:=fun x y:α=>!ltB h y x) (fun a b c h1 h2=>by
   rw [lt] at h1 h2 ⊢
   simp only [nR,decide_eq_false_iff_not] at h1 h2 ⊢
   simp only [lt2] at h1 h2 ⊢
   omega) (fun a b=>by
   rw [lt,lt]
   simp only [Bool.or_eq_true,nR,decide_eq_false_iff_not]
   simp only [lt2]
   omega) l
 refine ⟨_,wMV C,hp,?_⟩
 generalize l.mergeSort (fun x y=>!ltB h y x)=m at hp so
 have nd2:=(hp.map k2).nodup_iff.2 nd
 refine (so.and (kI.1 (nK.1 nd2))).imp fun {a b} h=>?_
 obtain ⟨h1,h2⟩:=h
 rw [lt] at h1
 simp only [nR,decide_eq_false_iff_not] at h1 ⊢
 simp only [lt2] at h1 ⊢
 omega
theorem cmpR1 (a b:wAB):wBm a b=some (wRS (·.Time) (·.Bib) a b):=by
 unfold wBm wRS
 rw [cmpI,nA,cmpI,nA,orI,nA]
 by_cases c1:a.Time < b.Time
 ·simp [c1]
 ·by_cases c2:b.Time < a.Time
  ·simp [c1,c2]
  ·simp only [c1,c2,if_false,if_true]
theorem cmpR2 (M:List (Int × Int)) (a b:wAB):wBn a b M=some (wRS (fun x=>-(wEJ M x.Bib 0)) (·.Bib) a b):=by
 unfold wBn wRS
 rw [cmpI,nA,cmpI,nA,orI,nA]
 simp only
 generalize wEJ M a.Bib 0=x
 generalize wEJ M b.Bib 0=y
 by_cases c1:y < x
 ·rw [if_pos c1,if_pos (show -x < -y by omega)];simp
 ·by_cases c2:x < y
  ·rw [if_neg c1,if_pos c2,if_neg (show ¬ -x < -y by omega),if_pos (show -y < -x by omega)];simp
  ·rw [if_neg c1,if_neg c2,if_neg (show ¬ -x < -y by omega),if_neg (show ¬ -y < -x by omega)];simp
structure Rc where
 bib:Int
 fin:Bool
 time:Int
 done:Int
instance:Inhabited Rc:=⟨⟨0,false,0,0⟩⟩
def wHI (r:wAD) (A:List wAG) (D:List Int) (k:Nat):Rc :=
 ⟨(gd r.Teams k).Bib,!(A.any fun o=>decide (o.Bib=(gd r.Teams k).Bib)) && decide (((gd (after r) k).length:Int)=(wDV r).Laps),gd (gd (after r) k) ((wDV r).Laps - 1).toNat + unT (gd r.Teams k).Legs * r.Rules.Unused,gd D k⟩
def wHW (r:wAD) (A:List wAG) (D:List Int):List Rc:=(nm r.Teams.length).map (wHI r A D)
def wQh (x:Rc):wAB:=⟨x.bib,0,x.time⟩
def othR (x:Rc):wAB:=⟨x.bib,0,0⟩
def wMt (l:List Rc):List wAB:=(l.filter fun x=>x.fin).map wQh
def wMu (l:List Rc):List wAB:=(l.filter fun x=>!x.fin).map othR
def wIS (l:List Rc):List (Int × Int):=l.foldl (fun m x=>wFf m x.bib x.done) []
theorem wNT (l:List Rc) (x:Rc):wIS (l ++ [x])=wFf (wIS l) x.bib x.done:=by unfold wIS;rw [kf];rfl
theorem wLF:∀ {l:List Rc} {m:List (Int × Int)} {b:Int},(∀ x ∈ l,x.bib ≠ b)->wIz (l.foldl (fun m x=>wFf m x.bib x.done) m) b=wIz m b
 | [],_,_,_=>rfl
 | y :: l,m,b,h=>by
  rw [kS,wLF (l:=l) fun x hx=>h x (by simp [hx]),wHw,if_neg]
  exact fun e=>h y (by simp) e.symm
theorem wMv:∀ {l:List Rc} {m:List (Int × Int)},(l.map (·.bib)).Nodup->∀ x ∈ l,wIz (l.foldl (fun m x=>wFf m x.bib x.done) m) x.bib=some x.done
 | [],_,_,_,h=>by cases h
 | y :: l,m,nd,x,hx=>by
  rw [kH,List.nodup_cons] at nd
  rw [kS]
  rcases nq.1 hx with rfl | hx
  ·rw [wLF fun z hz e=>nd.1 (na.2 ⟨z,hz,e⟩),wHw,if_pos rfl]
  ·exact wMv nd.2 x hx
theorem wOU {l:List Rc} (nd:(l.map (·.bib)).Nodup) {x:Rc} (hx:x ∈ l):wEJ (wIS l) x.bib 0=x.done:=by
 unfold wEJ wIS
 rw [wMv nd x hx];rfl
theorem wLG (r:wAD) (A:List wAG) (D:List Int):(wHW r A D).map (·.bib)=r.Teams.map (·.Bib):=by
 unfold wHW
 rw [kb]
 refine List.ext_getElem (by simp) fun i h1 h2=>?_
 simp only [nJ,List.getElem_range,Function.comp,wHI]
 rw [wCv (by simpa using h2)]
theorem wKU (r:wAD) (A:List wAG) (D:List Int):(wHW r A D).length=r.Teams.length:=by simp [wHW]
theorem wOV (r:wAD) (A:List wAG) (D:List Int) {k:Nat} (hk:k < r.Teams.length):(wHW r A D).take (k + 1)=(wHW r A D).take k ++ [wHI r A D k]:=by
 unfold wHW
 rw [<- kW,<- kW,List.take_range,List.take_range,Nat.min_eq_left (by omega),Nat.min_eq_left (by omega),kQ,nL]
 rfl
theorem wOW (l:List Rc) (x:Rc):wMt (l ++ [x])=if x.fin=true then wMt l ++ [wQh x] else wMt l:=by
 unfold wMt
 rw [kc]
 by_cases h:x.fin=true <;> simp [h]
theorem wOX (l:List Rc) (x:Rc):wMu (l ++ [x])=if x.fin=true then wMu l else wMu l ++ [othR x]:=by
 unfold wMu
 rw [kc]
 by_cases h:x.fin=true <;> simp [h]
theorem wMw (l:List Rc):(wMt l).length <= l.length:=by
 unfold wMt;rw [nI];exact ns _ _
theorem wMx (l:List Rc):(wMu l).length <= l.length:=by
 unfold wMu;rw [nI];exact ns _ _
theorem wPU (l:List Rc):(wMt l).map (·.Bib)=(l.filter fun x=>x.fin).map (·.bib):=by unfold wMt;rw [kb];rfl
theorem wPV (l:List Rc):(wMu l).map (·.Bib)=(l.filter fun x=>!x.fin).map (·.bib):=by unfold wMu;rw [kb];rfl
theorem wRx {l:List Rc} (nd:(l.map (·.bib)).Nodup):((wMt l).map (·.Bib)).Nodup:=by
 rw [wPU];exact nd.sublist (kX.map _)
theorem wRy {l:List Rc} (nd:(l.map (·.bib)).Nodup):((wMu l).map (·.Bib)).Nodup:=by
 rw [wPV];exact nd.sublist (kX.map _)
def plc (F:List wAB):Nat->Int
 | 0=>1
 | i + 1=>if (gd F (i + 1)).Time=(gd F i).Time then plc F i else (i:Int) + 2
def wJZ (F:List wAB):List wAB:=(nm F.length).map fun i=>⟨(gd F i).Bib,plc F i,(gd F i).Time⟩
theorem wGC (F:List wAB):(wJZ F).length=F.length:=by simp [wJZ]
theorem wLH {F:List wAB} {i:Nat} (h:i < F.length):gd (wJZ F) i=⟨(gd F i).Bib,plc F i,(gd F i).Time⟩:=by
 unfold wJZ
 rw [wCv (by simpa using h)]
 simp
def pB:Nat->List wAB->Option (List wAB):=fun k550 l549 =>
 (chk (↑k550:Int) l549.length).bind fun _ =>
 if 0 < (↑k550:Int) then
 (chk (↑k550:Int) (nG l549 k550 (⟨(gd l549 k550).Bib,(↑(k550 + 1):Int),(gd l549 k550).Time⟩:wAB)).length).bind fun _ =>
 (chk (w64 ((↑k550:Int) - 1)) (nG l549 k550 (⟨(gd l549 k550).Bib,(↑(k550 + 1):Int),(gd l549 k550).Time⟩:wAB)).length).bind fun _ =>
 if ((gd (nG l549 k550 (⟨(gd l549 k550).Bib,(↑(k550 + 1):Int),(gd l549 k550).Time⟩:wAB)) k550).Time)=((gd (nG l549 k550 (⟨(gd l549 k550).Bib,(↑(k550 + 1):Int),(gd l549 k550).Time⟩:wAB)) (w64 ((↑k550:Int) - 1)).toNat).Time) then
 some (nG (nG l549 k550 (⟨(gd l549 k550).Bib,(↑(k550 + 1):Int),(gd l549 k550).Time⟩:wAB)) k550 (⟨(gd (nG l549 k550 (⟨(gd l549 k550).Bib,(↑(k550 + 1):Int),(gd l549 k550).Time⟩:wAB)) k550).Bib,(gd (nG l549 k550 (⟨(gd l549 k550).Bib,(↑(k550 + 1):Int),(gd l549 k550).Time⟩:wAB)) (w64 ((↑k550:Int) - 1)).toNat).Place,(gd (nG l549 k550 (⟨(gd l549 k550).Bib,(↑(k550 + 1):Int),(gd l549 k550).Time⟩:wAB)) k550).Time⟩:wAB))
 else
 some (nG l549 k550 (⟨(gd l549 k550).Bib,(↑(k550 + 1):Int),(gd l549 k550).Time⟩:wAB))
 else
 some (nG l549 k550 (⟨(gd l549 k550).Bib,(↑(k550 + 1):Int),(gd l549 k550).Time⟩:wAB))
theorem wOY {α:Type} [Inhabited α] {l:List α} {i k:Nat} {x:α} (hi:i < l.length) (hk:k < l.length):gd (l.set i x) k=if k=i then x else gd l k:=by
 have h1:=wBO (xs:=l.set i x) (k:=k) (by rw [nk];exact hk)
 rw [List.getElem?_set] at h1
 by_cases e:i=k
 ·subst e
  rw [if_pos rfl,if_pos hi] at h1
  rw [if_pos rfl];exact (nW h1).symm
 ·rw [if_neg e,wBO hk] at h1
  rw [if_neg (fun h=>e h.symm)];exact (nW h1).symm
theorem wOZ {F:List wAB} (hF:F.length <= 1000):wCE 0 (↑F.length:Int) pB F=some (wJZ F):=by
 obtain ⟨s,e,h1,h2⟩:=wEm (body:=pB) (n:=F.length) (s0:=F) (fun k s=>s.length=F.length/\∀ i,i < F.length->gd s i=if i < k then ⟨(gd F i).Bib,plc F i,(gd F i).Time⟩ else gd F i) hF ⟨rfl,fun i hi=>by rw [if_neg (by omega)]⟩ (fun k s hk ⟨hl,hs⟩=>by
  have hkk:gd s k=gd F k:=by rw [hs k hk,if_neg (by omega)]
  unfold pB
  rw [wBy (by omega) (by omega),nA,hkk]
  have g1:∀ x i,i < F.length->gd (s.set k x) i=if i=k then x else gd s i:=fun x i hi=>wOY (by omega) (by omega)
  by_cases c:0 < k
  ·have gk:∀ x,gd (s.set k x) k=x:=fun x=>by rw [g1 _ k hk,if_pos rfl]
   have gp:∀ x,gd (s.set k x) (k - 1)=gd s (k - 1):=fun x=>by rw [g1 _ (k - 1) (by omega),if_neg (by omega)]
   have ek:(w64 ((k:Int) - 1)).toNat=k - 1:=by rw [wAQ (by omega) (by omega)];omega
   have hk1:gd s (k - 1)=⟨(gd F (k - 1)).Bib,plc F (k - 1),(gd F (k - 1)).Time⟩:=by rw [hs _ (by omega),if_pos (by omega)]
   rw [if_pos (by omega),wBy (by omega) (by rw [nk];omega),nA,wBy (by rw [wAQ (by omega) (by omega)];omega) (by rw [wAQ (by omega) (by omega),nk];omega),nA,ek,gk,gp,hk1]
   simp only
   have pk:plc F k=if (gd F k).Time=(gd F (k - 1)).Time then plc F (k - 1) else (k:Int) + 1:=by
    obtain ⟨m,rfl⟩:∃ m,k=m + 1:=⟨k - 1,by omega⟩
    rw [plc,kd]
    split
    ·rfl
    ·omega
   by_cases d:(gd F k).Time=(gd F (k - 1)).Time
   ·rw [if_pos d]
    refine ⟨_,rfl,by simp [hl],fun i hi=>?_⟩
    rw [wOY (by rw [nk];omega) (by rw [nk];omega),g1 _ i hi]
    by_cases ei:i=k
    ·subst ei
     rw [if_pos rfl,if_pos (by omega),pk,if_pos d]
    ·rw [if_neg ei,if_neg ei,hs i hi]
     by_cases c2:i < k
     ·rw [if_pos c2,if_pos (by omega)]
     ·rw [if_neg c2,if_neg (by omega)]
   ·rw [if_neg d]
    refine ⟨_,rfl,by simp [hl],fun i hi=>?_⟩
    rw [g1 _ i hi]
    by_cases ei:i=k
    ·subst ei
     rw [if_pos rfl,if_pos (by omega),pk,if_neg d]
     congr 1
    ·rw [if_neg ei,hs i hi]
     by_cases c2:i < k
     ·rw [if_pos c2,if_pos (by omega)]
     ·rw [if_neg c2,if_neg (by omega)]
  ·rw [if_neg (by omega)]
   have k0:k=0:=by omega
   subst k0
   refine ⟨_,rfl,by simp [hl],fun i hi=>?_⟩
   rw [g1 _ i hi]
   by_cases ei:i=0
   ·subst ei
    rw [if_pos rfl,if_pos (by omega)]
    rfl
   ·rw [if_neg ei,hs i hi,if_neg (by omega),if_neg (by omega)])
 rw [e]
 congr 1
 refine wKv (by rw [h1,wGC]) fun i hi=>?_
 rw [h2 i (by omega),if_pos (by omega),wLH (by omega)]
abbrev RS2:=List (Int × Int) × List wAB × List wAB
def rsB (r:wAD) (L:Int) (x99:List Int) (y149:List (Int × Bool)):Nat->RS2->Option RS2:=fun k258 (l247,l250,l254) =>
 (idx r.Teams (↑k258:Int)).bind fun x293 =>
 (chk (↑k258:Int) x99.length).bind fun _ =>
 if (wEJ y149 x293.Bib false)=true then
 (app 24 l254 [(⟨x293.Bib,0,0⟩:wAB)]).bind fun x346 =>
 some ((wFf l247 x293.Bib (gd x99 k258)),l250,x346)
 else
 (idx (after r) (↑k258:Int)).bind fun x364 =>
 if (↑x364.length:Int) < L then
 (app 24 l254 [(⟨x293.Bib,0,0⟩:wAB)]).bind fun x390 =>
 some ((wFf l247 x293.Bib (gd x99 k258)),l250,x390)
 else
 (idx x364 (w64 (L - 1))).bind fun x434 =>
 (wCo x293).bind fun x441 =>
 (app 24 l250 [(⟨x293.Bib,0,w64 (x434 + (w64 (x441 * r.Rules.Unused)))⟩:wAB)]).bind fun x456 =>
 some ((wFf l247 x293.Bib (gd x99 k258)),x456,l254)
theorem wNU {r:wAD} (g:wGO r):wCB r =
      (wCN ⟨r,after r⟩).bind fun x46 =>
      (wCA x46).bind fun (x83,_) =>
      (wCW x46).bind fun (x99,_) =>
      (wCE 0 (↑x83.length:Int) (fun k144 l141 =>
        (chk (↑k144:Int) x83.length).bind fun _ =>
        some (wFf l141 ((gd x83 k144).Bib) true)) ([]:List (Int × Bool))).bind fun y149 =>
      (wCE 0 (↑r.Teams.length:Int) (rsB r x46.Laps x99 y149) (([]:List (Int × Int)),[],[])).bind fun (y263,y264,y265) =>
      (wAe y264 (fun x=>wBm x.1 x.2)).bind fun x508 =>
      (wAe y265 (fun x=>wBn x.1 x.2 y263)).bind fun x532 =>
      (wCE 0 (↑x508.length:Int) pB x508).bind fun y555 =>
      (app 24 y555 x532).bind fun x615 =>
      some (x615,(0:Int)):=by
  unfold wCB
  rw [wMe g,nA]
  rfl
theorem wQi {r:wAD} (g:wGO r):wCN ⟨r,after r⟩=some (wDV r):=wOI g
theorem wLI:∀ (A:List wAG) (m:List (Int × Bool)) (b:Int),wEJ (A.foldl (fun m o=>wFf m o.Bib true) m) b false=((A.any fun o=>decide (o.Bib=b)) || wEJ m b false)
 | [],_,_=>by simp
 | o :: A,m,b=>by
  rw [kS,wLI A,kG]
  unfold wEJ
  rw [wHw]
  by_cases c:b=o.Bib
  ·rw [if_pos c,decide_eq_true c.symm];simp
  ·rw [if_neg c,decide_eq_false (fun h=>c h.symm)];simp
theorem wPW {A:List wAG} (hA:A.length <= 100000):(wCE 0 (↑A.length:Int) (fun k144 l141 =>
        (chk (↑k144:Int) A.length).bind fun _ =>
        some (wFf l141 ((gd A k144).Bib) true)) ([]:List (Int × Bool)))=some (A.foldl (fun m o=>wFf m o.Bib true) []):=by
  rw [wBs (S:=List (Int × Bool)) (n:=A.length) (fun k=>(A.take k).foldl (fun m o=>wFf m o.Bib true) []) (s0:=[]) rfl (by omega) fun k hk=>?_]
  · rw [nE]
  · rw [wBy (by omega) (by omega),nA,wBo hk,kf];rfl
structure ResP (rs:List Rc) (F O:List wAB):Prop where
 fp:F.Perm (wMt rs)
 fo:F.Pairwise (lt2 (·.Time) (·.Bib))
 op:O.Perm (wMu rs)
 oo:O.Pairwise (lt2 (fun x=>-(wEJ (wIS rs) x.Bib 0)) (·.Bib))
theorem wNV {r:wAD} (g:wGO r) {p:wAL} {A:List wAG} {τ:Nat->Option Int} (e:wDh (wDV r)=some (p,A)) (R:RunP (wDV r) p.done A τ) :
  ∃ F O,wCB r=some (wJZ F ++ O,0)/\ResP (wHW r A p.done) F O:=by
 have W:=wPT g
 have hn:=g.n
 have hb:(wDV r).Bibs.length=r.Teams.length:=by show (r.Teams.map _).length=_;rw [nI]
 have hal:(after r).length=r.Teams.length:=by unfold after;rw [nI]
 have nd:((wHW r A p.done).map (·.bib)).Nodup:=by rw [wLG];exact g.bibs
 rw [wNU g,wQi g,nA,wLE W e,nA]
 simp only
 rw [wJw W e,nA]
 simp only
 rw [wPW R.al,nA]
 rw [wBs (S:=RS2) (n:=r.Teams.length) (fun k=>(wIS ((wHW r A p.done).take k),wMt ((wHW r A p.done).take k),wMu ((wHW r A p.done).take k))) (s0:=([],[],[])) rfl (by omega) fun k hk=>?_]
 ·rw [nA]
  simp only
  rw [<- wKU r A p.done,nE]
  have hlen:=wKU r A p.done
  have hfl:=wMw (wHW r A p.done)
  have hol:=wMx (wHW r A p.done)
  obtain ⟨F,e1,f1,f2⟩:=wRw (h:=fun x=>wBm x.1 x.2) (·.Time) (·.Bib) (fun a b=>cmpR1 a b) (l:=wMt (wHW r A p.done)) (by omega) (wRx nd)
  obtain ⟨O,e2,o1,o2⟩:=wRw (h:=fun x=>wBn x.1 x.2 (wIS (wHW r A p.done))) (fun x=>-(wEJ (wIS (wHW r A p.done)) x.Bib 0)) (·.Bib) (fun a b=>cmpR2 _ a b) (l:=wMu (wHW r A p.done)) (by omega) (wRy nd)
  have lf:=f1.length_eq
  have lo:=o1.length_eq
  unfold wAe
  rw [e1,nA,e2,nA,wOZ (by omega),nA,wDM (by rw [wGC];omega),nA]
  exact ⟨F,O,rfl,f1,f2,o1,o2⟩
 ·have gt:=g.team _ (wAW hk)
  have hfl:=wMw ((wHW r A p.done).take k)
  have hol:=wMx ((wHW r A p.done).take k)
  rw [nT,wKU] at hfl hol
  unfold rsB
  simp only
  rw [wAX hk,nA,wBy (by omega) (by rw [R.dl,hb];omega),nA,wLI,wOV r A p.done hk,wNT,wOW,wOX]
  have m0:wEJ ([]:List (Int × Bool)) (gd r.Teams k).Bib false=false:=rfl
  rw [m0,Bool.or_false]
  by_cases c:(A.any fun o=>decide (o.Bib=(gd r.Teams k).Bib))=true
  ·have nf:¬ (wHI r A p.done k).fin=true:=by unfold wHI;simp only [c];simp
   rw [if_pos c,wDM (by simp only [nP,kT];omega),nA,if_neg nf,if_neg nf]
   rfl
  ·rw [if_neg c,wAX (by omega),nA]
   have hle:=W.le (gd (after r) k) (wAW (l:=(wDV r).Times) (k:=k) (show k < (after r).length by omega))
   have hlp:=W.laps
   have c':(A.any fun o=>decide (o.Bib=(gd r.Teams k).Bib))=false:=by simpa using c
   by_cases d:((gd (after r) k).length:Int) < (wDV r).Laps
   ·have nf:¬ (wHI r A p.done k).fin=true:=by
     unfold wHI
     simp only [nM,decide_eq_true_eq]
     omega
    rw [if_pos d,wDM (by simp only [nP,kT];omega),nA,if_neg nf,if_neg nf]
    rfl
   ·have yf:(wHI r A p.done k).fin=true:=by
     unfold wHI
     simp only [c',Bool.not_false,nO,decide_eq_true_eq]
     omega
    have et:gd (after r) k ∈ (wDV r).Times:=wAW (l:=(wDV r).Times) (k:=k) (show k < (after r).length by omega)
    have hidx:((wDV r).Laps - 1).toNat < (gd (after r) k).length:=by omega
    have hpos:=W.g.pos _ et _ (wAW hidx)
    have hu:=wGB g.rules gt.leg
    have hlg:=gt.legs;have hc4:=g.rules.n;have hun:=g.rules.unused
    have hm0:0 <= unT (gd r.Teams k).Legs * r.Rules.Unused:=kB hu.1 hun.1
    have hm1:unT (gd r.Teams k).Legs * r.Rules.Unused <= 48 * 6000:=kC (by omega) hun.2 hun.1 (by omega)
    rw [if_neg d,wAQ (x:=(wDV r).Laps - 1) (by omega) (by omega),show (wDV r).Laps - 1=((((wDV r).Laps - 1).toNat:Nat):Int) by omega,wAX hidx,nA,wOT g.rules gt,nA,wAQ (x:=unT (gd r.Teams k).Legs * r.Rules.Unused) (by omega) (by omega),wAQ (by omega) (by omega),wDM (by simp only [nP,kT];omega),nA,if_pos yf,if_pos yf]
    unfold wQh wHI
    rfl
structure wHx (r:wAF) (A:List wAG) (τ:Nat->Option Int):Prop where
 ex:∀ i,i < r.Bibs.length->∀ j,j < r.Bibs.length->∀ t ∈ gd r.Times j,nbf τ i t->(τ i=some t ↔ ∃ k,lap r τ i t k)
 in_:∀ i s,i < r.Bibs.length->τ i=some s->∃ l ∈ r.Times,s ∈ l
 ents:Ents r τ A
 ord:A.Pairwise ltO
theorem RunP.found {r:wAF} {D:List Int} {A:List wAG} {τ:Nat->Option Int} (h:RunP r D A τ):wHx r A τ:=⟨h.ex,h.in_,h.ents,h.ord⟩
theorem wPX {τ τ':Nat->Option Int} {m:Nat} {j:Nat} (hp:∀ s,τ' j=some s->0 <= s) (ih:∀ k:Nat,k < m->τ' j=some (k:Int)->τ j=some (k:Int)) (h:nbf τ j m):nbf τ' j m:=fun s hs=>by
 rcases Int.lt_or_le s m with c | c
 ·have h0:=hp s hs
  obtain ⟨k,rfl⟩:∃ k:Nat,s=k:=⟨s.toNat,by omega⟩
  exact absurd (h k (ih k (by omega) hs)) (by omega)
 ·exact c
theorem wPY {r:wAF} (G:wGQ r) {A A':List wAG} {τ τ':Nat->Option Int} (F:wHx r A τ) (F':wHx r A' τ'):∀ (m:Nat) (i:Nat),i < r.Bibs.length->(τ i=some (m:Int) ↔ τ' i=some (m:Int)):=by
 have pos:∀ {A:List wAG} {τ:Nat->Option Int},wHx r A τ->∀ i,i < r.Bibs.length->∀ s,τ i=some s->0 <= s:=fun F i hi s h=>by
  obtain ⟨l,hl,hs⟩:=F.in_ i s hi h
  exact (G.pos l hl s hs).1
 have one:∀ {A A':List wAG} {τ τ':Nat->Option Int},wHx r A τ->wHx r A' τ'->∀ m:Nat,(∀ k:Nat,k < m->∀ i,i < r.Bibs.length->(τ i=some (k:Int) ↔ τ' i=some (k:Int)))->∀ i,i < r.Bibs.length->τ i=some (m:Int)->τ' i=some (m:Int):=fun {A A' τ τ'} F F' m ih i hi h=>by
  have nb:∀ j,j < r.Bibs.length->nbf τ j m->nbf τ' j m:=fun j hj=>wPX (pos F' j hj) fun k hk=>(ih k hk j hj).2
  have ni:nbf τ i m:=fun s hs=>by rw [h] at hs;cases hs;exact nU _
  obtain ⟨l,hl,hs⟩:=F.in_ i m hi h
  obtain ⟨q,hq,e⟩:=nH hl
  have hq':q < r.Bibs.length:=by have:=G.t;omega
  have hs':(m:Int) ∈ gd r.Times q:=by rw [wCv hq,e];exact hs
  obtain ⟨k,h1,h2,h3,h4⟩:=(F.ex i hi q hq' m hs' ni).1 h
  exact (F'.ex i hi q hq' m hs' (nb i hi ni)).2 ⟨k,h1,nb k h1 h2,h3,h4⟩
 intro m
 induction m using Nat.strongRecOn with
 | ind m ih =>
  intro i hi
  exact ⟨one F F' m (fun k hk=>ih k hk) i hi,one F' F m (fun k hk j hj=>(ih k hk j hj).symm) i hi⟩
theorem wHy {r:wAF} (G:wGQ r) {A A':List wAG} {τ τ':Nat->Option Int} (F:wHx r A τ) (F':wHx r A' τ') {i:Nat} (hi:i < r.Bibs.length):τ i=τ' i:=by
 have key:=wPY G F F'
 have pos:∀ {A:List wAG} {τ:Nat->Option Int},wHx r A τ->∀ s,τ i=some s->∃ m:Nat,s=m:=fun F s h=>by
  obtain ⟨l,hl,hs⟩:=F.in_ i s hi h
  have:=(G.pos l hl s hs).1
  exact ⟨s.toNat,by omega⟩
 cases c:τ i with
 | some s =>
  obtain ⟨m,rfl⟩:=pos F s c
  exact ((key m i hi).1 c).symm
 | none =>
  cases d:τ' i with
  | none=>rfl
  | some s =>
   obtain ⟨m,rfl⟩:=pos F' s d
   rw [(key m i hi).2 d] at c
   cases c
theorem wLJ {r:wAF} (G:wGQ r) {A A':List wAG} {τ τ':Nat->Option Int} (F:wHx r A τ) (F':wHx r A' τ') {o:wAG} (ho:o ∈ A):o ∈ A':=by
 obtain ⟨i,hi,E⟩:=F.ents.of o ho
 have ti:=wHy G F F' hi
 obtain ⟨o',ho',eb⟩:=F'.ents.all i hi (by rw [<- ti,E.time];simp)
 obtain ⟨i',hi',E'⟩:=F'.ents.of o' ho'
 have:i'=i:=wGu G hi' hi (E'.bib.symm.trans eb)
 subst this
 have et:o.Time=o'.Time:=by
  have h1:=E.time;have h2:=E'.time
  rw [ti,h2] at h1
  exact (nW h1).symm
 have lp:∀ k,lap r τ i' o.Time k ↔ lap r τ' i' o'.Time k:=fun k=>by
  unfold lap
  rw [et]
  constructor
  ·rintro ⟨h1,h2,h3⟩
   exact ⟨h1,fun s hs=>h2 s (by rw [wHy G F F' h1];exact hs),h3⟩
  ·rintro ⟨h1,h2,h3⟩
   exact ⟨h1,fun s hs=>h2 s (by rw [<- wHy G F F' h1];exact hs),h3⟩
 obtain ⟨j,e1,l1,m1⟩:=E.by_
 obtain ⟨j',e2,l2,m2⟩:=E'.by_
 have b1:=m1 j' ((lp j').2 l2)
 have b2:=m2 j ((lp j).1 l1)
 have hb:=E.bib;have hd:=E.done;have hd':=E'.done
 obtain ⟨a1,a2,a3,a4⟩:=o
 obtain ⟨c1,c2,c3,c4⟩:=o'
 simp only at hb eb hd hd' et e1 e2 ⊢
 have:(⟨a1,a2,a3,a4⟩:wAG)=⟨c1,c2,c3,c4⟩:=by
  rw [hb,eb,hd,hd',et,show a4=c4 by omega]
 rw [this];exact ho'
theorem wOa {r:wAF} (G:wGQ r) {A A':List wAG} {τ τ':Nat->Option Int} (F:wHx r A τ) (F':wHx r A' τ'):A=A':=by
 have nd:∀ {A:List wAG},A.Pairwise ltO->A.Nodup:=fun h=>nK.2 (h.imp fun {a b} hab e=>by
  subst e
  unfold ltO at hab
  omega)
 refine List.Perm.eq_of_pairwise (le:=ltO) (fun a b _ _ h1 h2=>by unfold ltO at h1 h2;omega) F.ord F'.ord ?_
 exact (List.perm_ext_iff_of_nodup (nd F.ord) (nd F'.ord)).2 fun o=>⟨wLJ G F F',wLJ G F' F⟩
theorem wPZ {K V:Type} [DecidableEq K] {m:List (K × V)} {x y:K} {v:V}:wIz (wFf m x v) y=if y=x then some v else wIz m y:=by
 induction m with
 | nil=>simp only [wFf,wIz]
 | cons p m ih =>
  obtain ⟨a,u⟩:=p
  rw [wFf]
  by_cases h:x=a
  ·subst h
   rw [if_pos rfl,wIz,wIz]
   split <;> rfl
  ·rw [if_neg h,wIz,wIz,ih]
   by_cases h2:y=a
   ·rw [if_pos h2,if_neg (fun e:y=x=>h (e.symm.trans h2)),if_pos h2]
   ·rw [if_neg h2,if_neg h2]
theorem wPa {l:List Int} (hl:l.length <= 1000):wDp l=some (!decide l.Nodup):=by
 unfold wDp
 rw [wDo (by omega)]
 have key:∀ (m k:Nat) (t:List (Int × Bool)),k + m=l.length->(∀ n,wEJ t n false=decide (n ∈ l.take k))->(l.take k).Nodup ->
   jn (forN (fun k20 l17 =>
  (idx l (↑k20:Int)).bind fun x41 =>
  if (wEJ l17 x41 false)=true then
   esc (some true)
  else
   some (.inl (wFf l17 x41 true))) m k t) (fun _=>some false)=some (!decide l.Nodup):=by
  intro m
  induction m with
  | zero =>
   intro k t hk _ hn
   rw [List.take_of_length_le (by omega)] at hn
   simp [forN,hn]
  | succ m ih =>
   intro k t hk ht hn
   have hlt:k < l.length:=by omega
   rw [forN,wAX hlt,nA,ht]
   by_cases c:gd l k ∈ l.take k
   ·have:¬ l.Nodup:=fun h=>by
     rw [<- nt k l,wIM hlt] at h
     exact (nc.1 h).2.2 _ c _ (by simp) rfl
    simp [c,this]
   ·rw [if_neg (by simpa using c)]
    simp only
    refine ih (k + 1) _ (by omega) (fun n=>?_) ?_
    ·unfold wEJ at ht ⊢
     rw [wPZ,wBo hlt]
     by_cases e:n=gd l k
     ·rw [if_pos e];simp [e]
     ·rw [if_neg e,ht];simp [e]
    ·rw [wBo hlt,nc]
     exact ⟨hn,by simp,fun a ha b hb e=>by simp at hb;subst hb;subst e;exact c ha⟩
 exact key l.length 0 [] (by omega) (fun n=>by simp [wEJ,wIz]) (by simp)
theorem wOb (x a b:Int):wEK x a b=some (decide (a <= x) && decide (x <= b)):=by
 unfold wEK
 by_cases h:a <= x <;> simp [h]
theorem wMy {l:List (List Int)} {f:List Int->Option Bool} {g:List Int->Bool} (hn:l.length <= 1000) (h:∀ a ∈ l,f a=some (g a)):wCs l f=some (l.all g):=by
 unfold wCs
 rw [forR_all (fun k=>g (gd l k)) false hn fun i hi=>by
  rw [wAX hi,nA,h _ (wAW hi),nA]
  split <;> rfl,all_allN]
 by_cases c:allN (fun k=>g (gd l k)) l.length 0=true
 ·rw [if_pos c,c];rfl
 ·rw [if_neg c,nZ.2 c];rfl
theorem wMz {l:List Int} {f:Int->Option Bool} {g:Int->Bool} (hn:l.length <= 1000) (h:∀ a ∈ l,f a=some (g a)):wBY l f=some (l.all g):=by
 unfold wBY
 rw [forR_all (fun k=>g (gd l k)) false hn fun i hi=>by
  rw [wAX hi,nA,h _ (wAW hi),nA]
  split <;> rfl,all_allN]
 by_cases c:allN (fun k=>g (gd l k)) l.length 0=true
 ·rw [if_pos c,c];rfl
 ·rw [if_neg c,nZ.2 c];rfl
def rng (a b x:Int):Bool:=decide (a <= x) && decide (x <= b)
def wLU (l:List Int):Bool:=allN (fun k=>decide (gd l k < gd l (k + 1))) (l.length - 1) 0
theorem wQj {l:List Int} (h:wLU l=true):l.Pairwise (· < ·):=by
 unfold wLU at h
 have h1:=(allN_iff _ _ _).1 h
 rw [nD]
 intro i j hi hj hij
 rw [<- wCv hi,<- wCv hj]
 have key:∀ d,i + 1 + d < l.length->gd l i < gd l (i + 1 + d):=by
  intro d
  induction d with
  | zero=>intro hd;simpa using h1 i (by omega) (by omega)
  | succ d ih =>
   intro hd
   have a:=ih (by omega)
   have b:=h1 (i + 1 + d) (by omega) (by omega)
   simp only [decide_eq_true_iff] at b
   rw [show i + 1 + (d + 1)=i + 1 + d + 1 by omega]
   omega
 have:=key (j - i - 1) (by omega)
 rwa [show i + 1 + (j - i - 1)=j by omega] at this
def wJn (r:wAF):Int :=
 if rng 1 20 r.Laps=true then
 if 60 < (r.Bibs.length:Int) then 2
 else if (r.Times.length:Int)=(r.Bibs.length:Int) then
 if (r.Times.all fun l=>decide ((l.length:Int) <= r.Laps))=true then
 if r.Bibs.all (rng 1 999)=true then
 if (r.Times.all fun l=>l.all (rng 0 360000))=true then
 if r.Bibs.Nodup then (if r.Times.all wLU=true then 0 else 4) else 5
 else 3
 else 3
 else 2
 else 2
 else 2
structure wNW (r:wAF):Prop where
 b:r.Bibs.length <= 64
 t:r.Times.length <= 64
 l:∀ l ∈ r.Times,l.length <= 24
theorem wPb {l:List Int} (hl:l.length <= 24):(jn (wEh 1 (↑l.length:Int) (fun k132 (_:Unit) =>
                    (idx l (1 + ↑k132:Int)).bind fun x155 =>
                    (idx l (w64 ((1 + ↑k132:Int) - 1))).bind fun x163 =>
                    if x155 <= x163 then
                      esc (esc (some (4:Int)))
                    else
                      some (.inl ())) ()) fun _ =>
                  (some (.inl ()):Option (Unit ⊕ Int)))=some (if wLU l=true then .inl () else .inr 4):=by
  unfold wEh
  rw [if_pos (by omega)]
  have:=forN_fnd (B:=Unit ⊕ Int) (body:=fun k132 (_:Unit) =>
                    (idx l (1 + ↑k132:Int)).bind fun x155 =>
                    (idx l (w64 ((1 + ↑k132:Int) - 1))).bind fun x163 =>
                    if x155 <= x163 then
                      esc (esc (some (4:Int)))
                    else
                      some (.inl ())) (f:=fun k=>if (decide (gd l k < gd l (k + 1)))=true then none else some (.inr 4)) (l.length - 1) 0 fun i _ hi=>by
    have e1:(1 + (i:Int))=((i + 1:Nat):Int):=by omega
    rw [wAQ (by omega) (by omega),e1,show ((i + 1:Nat):Int) - 1=(i:Int) by omega,wAX (by omega),nA,wAX (by omega),nA]
    by_cases c:gd l i < gd l (i + 1)
    · rw [if_neg (by omega),if_pos (by simpa using c)];rfl
    · rw [if_pos (by omega),if_neg (by simpa using c)];rfl
  rw [show ((l.length:Int) - 1).toNat=l.length - 1 by omega,this,fnd_if]
  unfold wLU
  by_cases c:allN (fun k=>decide (gd l k < gd l (k + 1))) (l.length - 1) 0=true
  · rw [if_pos c,if_pos c];rfl
  · rw [if_neg c,if_neg c];rfl
theorem wOc {r:wAF} (S:wNW r):wCO r=some (wJn r):=by
 have h1:=S.b;have h2:=S.t
 unfold wCO wJn
 rw [wOb,nA]
 show (if rng 1 20 r.Laps=true then _ else _)=_
 by_cases c0:rng 1 20 r.Laps=true
 ·rw [if_pos c0,if_pos c0]
  by_cases c1:60 < (r.Bibs.length:Int)
  ·rw [if_pos c1,if_pos c1]
  ·rw [if_neg c1,if_neg c1]
   by_cases c2:(r.Times.length:Int)=(r.Bibs.length:Int)
   ·rw [if_pos c2,if_pos c2,wMy (l:=r.Times) (f:=fun x=>wCI x r) (g:=fun l=>decide ((l.length:Int) <= r.Laps)) (by omega) (fun a _=>rfl),nA]
    by_cases c3:(r.Times.all fun l=>decide ((l.length:Int) <= r.Laps))=true
    ·rw [if_pos c3,if_pos c3,wMz (g:=rng 1 999) (by omega) (fun a _=>by unfold wCJ;rw [wOb];rfl),nA]
     by_cases c4:r.Bibs.all (rng 1 999)=true
     ·rw [if_pos c4,if_pos c4,wMy (g:=fun l=>l.all (rng 0 360000)) (by omega) (fun a ha=>by
       have:=S.l a ha
       unfold wCK
       rw [wMz (g:=rng 0 360000) (by omega) (fun a _=>by unfold wBZ;rw [wOb];rfl)];rfl),nA]
      by_cases c5:(r.Times.all fun l=>l.all (rng 0 360000))=true
      ·rw [if_pos c5,if_pos c5,wPa (by omega),nA]
       by_cases c6:r.Bibs.Nodup
       ·rw [if_neg (by simp [c6]),if_pos c6,forR_all (fun k=>wLU (gd r.Times k)) (4:Int) (by omega) fun i hi=>by
         rw [wAX hi,nA]
         exact wPb (S.l _ (wAW hi)),<- all_allN]
        by_cases c7:r.Times.all wLU=true
        ·rw [if_pos c7,if_pos c7];rfl
        ·rw [if_neg c7,if_neg c7];rfl
       ·rw [if_pos (by simp [c6]),if_neg c6]
      ·rw [if_neg c5,if_neg c5]
     ·rw [if_neg c4,if_neg c4]
    ·rw [if_neg c3,if_neg c3]
   ·rw [if_neg c2,if_neg c2]
 ·rw [if_neg c0,if_neg c0]
theorem wNX {r:wAF} (h:wJn r=0):wGQ r:=by
 unfold wJn at h
 by_cases c0:rng 1 20 r.Laps=true
 ·rw [if_pos c0] at h
  by_cases c1:60 < (r.Bibs.length:Int)
  ·rw [if_pos c1] at h;cases h
  rw [if_neg c1] at h
  by_cases c2:(r.Times.length:Int)=(r.Bibs.length:Int)
  ·rw [if_pos c2] at h
   by_cases c3:(r.Times.all fun l=>decide ((l.length:Int) <= r.Laps))=true
   ·rw [if_pos c3] at h
    by_cases c4:r.Bibs.all (rng 1 999)=true
    ·rw [if_pos c4] at h
     by_cases c5:(r.Times.all fun l=>l.all (rng 0 360000))=true
     ·rw [if_pos c5] at h
      by_cases c6:r.Bibs.Nodup
      ·rw [if_pos c6] at h
       by_cases c7:r.Times.all wLU=true
       ·rw [nX] at c3 c5 c7
        unfold rng at c0
        simp at c0
        refine ⟨by omega,by omega,fun l hl=>?_,fun l hl=>wQj (c7 l hl),fun l hl x hx=>?_,c6⟩
        ·have:=c3 l hl
         simp at this
         omega
        ·have:=nX.1 (c5 l hl) x hx
         unfold rng at this
         simpa using this
       ·rw [if_neg c7] at h;cases h
      ·rw [if_neg c6] at h;cases h
     ·rw [if_neg c5] at h;cases h
    ·rw [if_neg c4] at h;cases h
   ·rw [if_neg c3] at h;cases h
  ·rw [if_neg c2] at h;cases h
 ·rw [if_neg c0] at h;cases h
def cvS (r:wAF):wAn:=⟨r.Laps,r.Bibs,r.Times⟩
def k5 (r:wAF) (x212:Int) (x230:Int):Option (Int ⊕ (Int ⊕ Int)) :=
 (idx r.Times x212).bind fun x244 =>
 if x230 < (↑x244.length:Int) then
 (idx x244 x230).bind fun x275 =>
 (idx x244 (w64 (x230 - 1))).bind fun x291 =>
 if x275 <= x291 then
 esc (esc (some 4))
 else
 some (.inl (w64 (x230 + 1)))
 else
 esc (some (.inl (w64 (x212 + 1))))
def k4 (r:wAF) (x212:Int):Option (Int ⊕ Int) :=
 if x212 < (↑r.Times.length:Int) then
 iter (k5 r x212) big 1
 else
 esc (some 0)
def k3 (r:wAF) (x71:Int) (x115:Int):Option (Int ⊕ (Int ⊕ Int)) :=
 (idx r.Times x71).bind fun x129 =>
 if x115 < (↑x129.length:Int) then
 (idx x129 x115).bind fun x157 =>
 (wBK x157 0 360000).bind fun x164 =>
 if x164=true then
 esc (esc (some 3))
 else
 some (.inl (w64 (x115 + 1)))
 else
 esc (some (.inl (w64 (x71 + 1))))
def k2 (r:wAF) (x71:Int):Option (Int ⊕ Int) :=
 if x71 < (↑r.Bibs.length:Int) then
 (idx r.Bibs x71).bind fun x86 =>
 (wBK x86 1 999).bind fun x96 =>
 if x96=true then
 esc (some 3)
 else
 iter (k3 r x71) big 0
 else
 esc ((wCP r.Bibs).bind fun x196 =>
 if x196=true then
 some 5
 else
 iter (k4 r) big 0)
def k1 (r:wAF) (x26:Int):Option (Int ⊕ Int) :=
 if x26 < (↑r.Times.length:Int) then
 (idx r.Times x26).bind fun x43 =>
 if r.Laps < (↑x43.length:Int) then
 esc (some 2)
 else
 some (.inl (w64 (x26 + 1)))
 else
 esc (iter (k2 r) big 0)
theorem wNY (r:wAF):wBX (cvS r) =
 (wBK r.Laps 1 20).bind fun x5 =>
 if x5=true then
  some 2
 else
  if 60 < (↑r.Bibs.length:Int) then
   some 2
  else
   if (↑r.Times.length:Int)=(↑r.Bibs.length:Int) then
    iter (k1 r) big 0
   else
    some 2:=rfl
theorem wLt (x a b:Int):wBK x a b=some (!rng a b x):=by
 unfold wBK rng
 by_cases h:x < a
 ·have:¬ a <= x:=by omega
  simp [h,this]
 ·have:a <= x:=by omega
  rw [if_neg h]
  by_cases c:b < x
  ·have:¬ x <= b:=by omega
   simp [c,this]
  ·have d:x <= b:=by omega
   simp [c,d,this]
theorem wOd {l:List Int} (hl:l.length <= 1000):wCP l=some (!decide l.Nodup):=by
 unfold wCP
 rw [forR_all (fun k=>allN (fun j=>decide (gd l k ≠ gd l j)) k 0) true hl fun k hk=>by
  rw [forR_all (fun j=>decide (gd l k ≠ gd l j)) (.inr true) (by omega) fun j hj=>by
   rw [wAX hk,nA,wAX (by omega),nA]
   by_cases c:gd l k=gd l j
   ·rw [if_pos c,if_neg (by simp [c])];rfl
   ·rw [if_neg c,if_pos (by simpa using c)]]
  split <;> rfl]
 have key:allN (fun k=>allN (fun j=>decide (gd l k ≠ gd l j)) k 0) l.length 0=decide l.Nodup:=by
  rw [kR,allN_iff,decide_eq_true_iff,nK,nD]
  constructor
  ·intro h i j hi hj hij e
   have:=(allN_iff _ _ _).1 (h j (by omega) (by omega)) i (by omega) (by omega)
   rw [wCv hj,wCv hi] at this
   simp at this
   exact this e.symm
  ·intro h k _ hk
   refine (allN_iff _ _ _).2 fun j _ hj=>decide_eq_true fun e=>?_
   rw [wCv (by omega),wCv (show j < l.length by omega)] at e
   exact h j k (by omega) (by omega) (by omega) e.symm
 rw [key]
 by_cases c:l.Nodup
 ·rw [if_pos (decide_eq_true c)];simp [c,jn]
 ·rw [if_neg (by simpa using c)];simp [c,jn]
theorem wJx (q:Nat->Bool):∀ m k,allN (fun i=>q (i + 1)) m k=allN q m (k + 1)
 | 0,k=>rfl
 | m + 1,k=>by rw [allN,allN,wJx q m (k + 1)]
theorem wOe {B:Type} {body:Int->Option (Int ⊕ B)} {f:Nat->Option B} {z:B} {n lo:Nat} (h:∀ i,lo <= i->i < n->body (i:Int)=some (out ((i:Int) + 1) (f i))) (hz:body (n:Int)=some (.inr z)):∀ (m k F:Nat),lo <= k->k + m=n->m < F->iter body F (k:Int)=some ((fnd f m k).getD z)
 | 0,k,F,hk0,hk,hF=>by
  obtain ⟨F,rfl⟩:∃ G,F=G + 1:=⟨F - 1,by omega⟩
  obtain rfl:k=n:=by omega
  rw [iter,hz]
  rfl
 | m + 1,k,F,hk0,hk,hF=>by
  obtain ⟨F,rfl⟩:∃ G,F=G + 1:=⟨F - 1,by omega⟩
  rw [iter,h k hk0 (by omega),fnd]
  cases f k with
  | none=>exact wOe h hz m (k + 1) F (by omega) (by omega) (by omega)
  | some c=>rfl
theorem k5_is {r:wAF} {i:Nat} (hi:i < r.Times.length) (ht:r.Times.length <= 64) (hl:(gd r.Times i).length <= 24):iter (k5 r (i:Int)) big 1=some (if wLU (gd r.Times i)=true then .inl ((i:Int) + 1) else .inr 4):=by
 have hend:∀ x:Int,¬ x < ((gd r.Times i).length:Int)->k5 r (i:Int) x=some (.inr (.inl ((i:Int) + 1))):=fun x hx=>by
  unfold k5
  rw [wAX hi,nA,if_neg hx,wAQ (by omega) (by omega)]
  rfl
 by_cases h0:(gd r.Times i).length=0
 ·have:wLU (gd r.Times i)=true:=by unfold wLU;rw [h0];rfl
  rw [if_pos this,show big=(big - 1) + 1 by decide,iter,hend 1 (by omega)]
 ·have:=wOe (body:=k5 r (i:Int)) (f:=fun k=>if decide (gd (gd r.Times i) (k - 1) < gd (gd r.Times i) k)=true then none else some (.inr 4)) (z:=.inl ((i:Int) + 1)) (n:=(gd r.Times i).length) (lo:=1) (fun q hq1 hq=>by
   unfold k5
   rw [wAX hi,nA,if_pos (by omega),wAX hq,nA,wAQ (x:=(q:Int) - 1) (by omega) (by omega),show (q:Int) - 1=((q - 1:Nat):Int) by omega,wAX (by omega),nA]
   by_cases c:gd (gd r.Times i) (q - 1) < gd (gd r.Times i) q
   ·rw [if_neg (by omega),if_pos (by simpa using c),wAQ (by omega) (by omega)];rfl
   ·rw [if_pos (by omega),if_neg (by simpa using c)];rfl) (hend _ (by omega)) ((gd r.Times i).length - 1) 1 big (by omega) (by omega) (by unfold big;omega)
  rw [show ((1:Nat):Int)=1 from rfl] at this
  rw [this,fnd_if,<- wJx]
  unfold wLU
  simp only [kd]
  split <;> rfl
theorem k3_is {r:wAF} {i:Nat} (hi:i < r.Times.length) (ht:r.Times.length <= 64) (hl:(gd r.Times i).length <= 24):iter (k3 r (i:Int)) big 0=some (if (gd r.Times i).all (rng 0 360000)=true then .inl ((i:Int) + 1) else .inr 3):=by
 rw [iter_all (n:=(gd r.Times i).length) (fun q=>rng 0 360000 (gd (gd r.Times i) q)) (.inr 3) (z:=.inl ((i:Int) + 1)) (by omega) (fun q hq=>by
  unfold k3
  rw [wAX hi,nA,if_pos (by omega),wAX hq,nA,wLt,nA]
  by_cases c:rng 0 360000 (gd (gd r.Times i) q)=true
  ·rw [if_pos c,c,if_neg (by decide),wAQ (by omega) (by omega)]
  ·rw [if_neg c,nZ.2 c,if_pos (by decide)];rfl) (by
  unfold k3
  rw [wAX hi,nA,if_neg (by omega),wAQ (by omega) (by omega)]
  rfl),<- all_allN]
theorem k4_is {r:wAF} (S:wNW r):iter (k4 r) big 0=some (if r.Times.all wLU=true then 0 else 4):=by
 have h2:=S.t
 rw [iter_all (n:=r.Times.length) (fun q=>wLU (gd r.Times q)) (4:Int) (z:=0) (by omega) (fun q hq=>by
  unfold k4
  rw [if_pos (by omega),k5_is hq h2 (S.l _ (wAW hq))]) (by
  unfold k4
  rw [if_neg (by omega)];rfl),<- all_allN]
theorem k2_is {r:wAF} (S:wNW r) (hn:r.Times.length=r.Bibs.length):iter (k2 r) big 0=some (if r.Bibs.all (rng 1 999)=true then (if (r.Times.all fun l=>l.all (rng 0 360000))=true then (if r.Bibs.Nodup then (if r.Times.all wLU=true then 0 else 4) else 5) else 3) else 3):=by
 have h1:=S.b;have h2:=S.t
 rw [iter_all (n:=r.Bibs.length) (fun q=>rng 1 999 (gd r.Bibs q) && (gd r.Times q).all (rng 0 360000)) (3:Int) (z:=if r.Bibs.Nodup then (if r.Times.all wLU=true then 0 else 4) else 5) (by omega) (fun q hq=>by
  unfold k2
  rw [if_pos (by omega),wAX hq,nA,wLt,nA]
  by_cases c:rng 1 999 (gd r.Bibs q)=true
  ·rw [c,if_neg (by decide),k3_is (by omega) h2 (S.l _ (wAW (by omega))),nO]
  ·rw [nZ.2 c,if_pos (by decide),kD,if_neg (by decide)];rfl) (by
  unfold k2
  rw [if_neg (by omega),wOd (by omega),nA,k4_is S]
  by_cases c:r.Bibs.Nodup
  ·rw [if_neg (by simp [c]),if_pos c];rfl
  ·rw [if_pos (by simp [c]),if_neg c];rfl)]
 have e1:=all_allN (rng 1 999) r.Bibs
 have e2:=all_allN (fun l=>List.all l (rng 0 360000)) r.Times
 have key:allN (fun q=>rng 1 999 (gd r.Bibs q) && (gd r.Times q).all (rng 0 360000)) r.Bibs.length 0=(r.Bibs.all (rng 1 999) && r.Times.all fun l=>l.all (rng 0 360000)):=by
  rw [e1,e2,hn,kR,nM,allN_iff,allN_iff,allN_iff]
  constructor
  ·intro h
   exact ⟨fun i a b=>(nM _ _ ▸ h i a b).1,fun i a b=>(nM _ _ ▸ h i a b).2⟩
  ·intro h i a b
   rw [nM]
   exact ⟨h.1 i a b,h.2 i a b⟩
 rw [key]
 by_cases c:r.Bibs.all (rng 1 999)=true
 ·rw [c,nO,if_pos rfl]
 ·rw [nZ.2 c,kD];rfl
theorem wPc {r:wAF} (S:wNW r):wBX (cvS r)=some (wJn r):=by
 have h1:=S.b;have h2:=S.t
 rw [wNY,wLt,nA]
 unfold wJn
 by_cases c0:rng 1 20 r.Laps=true
 ·rw [c0,if_neg (by decide),if_pos rfl]
  by_cases c1:60 < (r.Bibs.length:Int)
  ·rw [if_pos c1,if_pos c1]
  ·rw [if_neg c1,if_neg c1]
   by_cases c2:(r.Times.length:Int)=(r.Bibs.length:Int)
   ·rw [if_pos c2,if_pos c2,iter_all (n:=r.Times.length) (fun q=>decide (((gd r.Times q).length:Int) <= r.Laps)) (2:Int) (by omega) (fun q hq=>by
     unfold k1
     rw [if_pos (by omega),wAX hq,nA]
     by_cases c:((gd r.Times q).length:Int) <= r.Laps
     ·rw [if_neg (by omega),if_pos (by simpa using c),wAQ (by omega) (by omega)]
     ·rw [if_pos (by omega),if_neg (by simpa using c)];rfl) (by
     unfold k1
     rw [if_neg (by omega),k2_is S (by omega)];rfl),<- all_allN (fun l:List Int=>decide ((l.length:Int) <= r.Laps))]
   ·rw [if_neg c2,if_neg c2]
 ·rw [nZ.2 c0,if_pos (by decide)];rfl
abbrev RO:=List wAf
abbrev QS:=(List Int) × RO × Int
abbrev QR:=QS ⊕ (RO × (List Int))
abbrev XS:=(List Int) × RO × RO
def zB (r:wAF) (x95:Int) (l517:RO) (y550:Int) (x611:RO):(List Int) × Int->Option (((List Int) × Int) ⊕ (XS ⊕ QR))
  | (l625,x626) =>
                        if x626 < (↑r.Bibs.length:Int) then
                          (idx r.Bibs x626).bind fun x650 =>
                          if x650=((gd l517 y550.toNat).Bib) then
                            (chk x626 l625.length).bind fun _ =>
                            some (.inl ((nG l625 x626.toNat x95),w64 (x626 + 1)))
                          else
                            some (.inl (l625,w64 (x626 + 1)))
                        else
                          esc ((cut l517 0 y550).bind fun x684 =>
                          (cut l517 (w64 (y550 + 1)) (↑(l517.length):Int)).bind fun x693 =>
                          (app 32 x684 x693).bind fun x709 =>
                          some (.inl (l625,x611,x709)))
def fstB (l517:RO) (k545:Nat) (x544:Int):Option Int :=
 (chk (1 + ↑k545:Int) l517.length).bind fun _ =>
 (chk x544 l517.length).bind fun _ =>
 if ((gd l517 (1 + ↑k545:Int).toNat).Bib) < ((gd l517 x544.toNat).Bib) then
 some (1 + ↑k545:Int)
 else
 some x544
def xB (r:wAF) (x95:Int):XS->Option (XS ⊕ QR)
  | (l513,l514,l517) =>
                    if 0 < (↑l517.length:Int) then
                      (wCE 1 (↑l517.length:Int) (fstB l517) 0).bind fun y550 =>
                      (chk y550 l517.length).bind fun _ =>
                      (app 32 l514 [(gd l517 y550.toNat)]).bind fun x611 =>
                      iter (zB r x95 l517 y550 x611) big (l513,0)
                    else
                      esc (some (.inl (l513,l514,x95)))
def byB (r:wAF) (l66:List Int) (x95 x273 x289 x290:Int):Option Int :=
 (idx r.Times x290).bind fun x319 =>
 (chk x290 l66.length).bind fun _ =>
 (wAr x319 x95 (gd l66 x290.toNat)).bind fun x336 =>
 if (gd l66 x290.toNat) < 0 then
 if (w64 (x273 + 2)) <= x336 then
 (idx x319 (w64 (x336 - 1))).bind fun x374 =>
 if x374=x95 then
 if x289=0 then
 (idx r.Bibs x290).bind fun x385 =>
 some x385
 else
 (idx r.Bibs x290).bind fun x401 =>
 if x401 < x289 then
 some x401
 else
 some x289
 else
 some x289
 else
 some x289
 else
 some x289
def yB (r:wAF) (l66:List Int) (x95:Int) (l221:RO) (x225 x273:Int):Int × Int->Option ((Int × Int) ⊕ ((RO × Int) ⊕ QR))
  | (x289,x290) =>
                      if x290 < (↑r.Bibs.length:Int) then
                        (byB r l66 x95 x273 x289 x290).bind fun x313 =>
                        some (.inl (x313,w64 (x290 + 1)))
                      else
                        esc (if 0 < x289 then
                          (idx r.Bibs x225).bind fun x453 =>
                          (app 32 l221 [(⟨x453,x273,x95,x289⟩:wAf)]).bind fun x471 =>
                          some (.inl (x471,w64 (x225 + 1)))
                        else
                          some (.inl (l221,w64 (x225 + 1))))
def nB (r:wAF) (l66:List Int) (l67:RO) (x95:Int):RO × Int->Option ((RO × Int) ⊕ QR)
  | (l221,x225) =>
                if x225 < (↑r.Bibs.length:Int) then
                  (chk x225 l66.length).bind fun _ =>
                  if 0 <= (gd l66 x225.toNat) then
                    some (.inl (l221,w64 (x225 + 1)))
                  else
                    (idx r.Times x225).bind fun x257 =>
                    (wAr x257 x95 (-1)).bind fun x273 =>
                    iter (yB r l66 x95 l221 x225 x273) big (0,0)
                else
                  esc (iter (xB r x95) big (l66,l67,l221))
def bB (r:wAF) (x71 x96:Int):Int × Int->Option ((Int × Int) ⊕ ((Int × Int) ⊕ QR))
  | (x121,x122) =>
              (idx r.Times x96).bind fun x140 =>
              if x122 < (↑x140.length:Int) then
                (idx x140 x122).bind fun x167 =>
                if x71 < x167 then
                  if x121 < 0 then
                    some (.inl (x167,w64 (x122 + 1)))
                  else
                    if x167 < x121 then
                      some (.inl (x167,w64 (x122 + 1)))
                    else
                      some (.inl (x121,w64 (x122 + 1)))
                else
                  some (.inl (x121,w64 (x122 + 1)))
              else
                esc (some (.inl (x121,w64 (x96 + 1))))
def aB (r:wAF) (l66:List Int) (l67:RO) (x71:Int):Int × Int->Option ((Int × Int) ⊕ QR)
  | (x95,x96) =>
          if x96 < (↑r.Times.length:Int) then
            iter (bB r x71 x96) big (x95,0)
          else
            esc (if x95 < 0 then
              esc (some (l67,l66))
            else
              iter (nB r l66 l67 x95) big ([],0))
def qB (r:wAF):QS->Option QR
 | (l66,l67,x71)=>iter (aB r l66 l67 x71) big (-1,0)
def gB (r:wAF):(List Int) × Int->Option (((List Int) × Int) ⊕ (RO × (List Int)))
 | (l19,x20) =>
  if x20 < (↑l19.length:Int) then
   (chk x20 l19.length).bind fun _ =>
   some (.inl ((nG l19 x20.toNat (-1)),w64 (x20 + 1)))
  else
   esc (iter (qB r) big (l19,[],-1))
theorem wLu (r:wAF):wDA (cvS r)=(mkz 8 (↑r.Bibs.length:Int) (0:Int)).bind fun x5=>iter (gB r) big (x5,0):=rfl
def fB2 (p1 p2:Int) (l:List Int) (k7:Nat) (x6:Int):Option Int :=
 (idx l (↑k7:Int)).bind fun x29 =>
 if x29 <= p1 then
 if p2 < 0 then
 some (w64 (x6 + 1))
 else
 if x29 <= p2 then
 some (w64 (x6 + 1))
 else
 some x6
 else
 some x6
theorem wOf {l:List Int} (hl:l.length <= 1000) (t g:Int):wAr l t g=some (if g < 0 then (cn l t:Int) else (cn l (if t <= g then t else g):Int)):=by
 have key:∀ u:Int,(∀ x:Int,(x <= u ↔ x <= t/\(g < 0 \/ x <= g)))->wCE 0 (↑l.length:Int) (fB2 t g l) 0=some (cn l u:Int):=fun u hu=>by
  have:=wBs (body:=fB2 t g l) (n:=l.length) (s0:=0) (fun k=>(cn (l.take k) u:Int)) (by simp [cn]) (by omega) (fun i hi=>by
   unfold fB2
   have hc:=wJl (l.take i) u
   rw [nT] at hc
   rw [wAX hi,nA,wBo hi]
   unfold cn at hc ⊢
   rw [List.countP_append]
   have hx:=hu (gd l i)
   by_cases c1:gd l i <= t
   ·rw [if_pos c1]
    by_cases c2:g < 0
    ·have:gd l i <= u:=hx.2 ⟨c1,.inl c2⟩
     rw [if_pos c2,wAQ (by omega) (by omega)];simp [this]
    ·rw [if_neg c2]
     by_cases c3:gd l i <= g
     ·have:gd l i <= u:=hx.2 ⟨c1,.inr c3⟩
      rw [if_pos c3,wAQ (by omega) (by omega)];simp [this]
     ·have:¬ gd l i <= u:=fun h=>by have:=hx.1 h;omega
      rw [if_neg c3];simp [this]
   ·have:¬ gd l i <= u:=fun h=>by have:=hx.1 h;omega
    rw [if_neg c1];simp [this])
  rw [nE] at this
  exact this
 have e:wAr l t g=(wCE 0 (↑l.length:Int) (fB2 t g l) 0).bind fun y12=>some y12:=rfl
 rw [e]
 by_cases c:g < 0
 ·rw [if_pos c,key t (fun x=>by omega),nA]
 ·rw [if_neg c]
  by_cases d:t <= g
  ·rw [if_pos d,key t (fun x=>by omega),nA]
  ·rw [if_neg d,key g (fun x=>by omega),nA]
end Go.Proofs.YtabadkdjndnliaaGreat
