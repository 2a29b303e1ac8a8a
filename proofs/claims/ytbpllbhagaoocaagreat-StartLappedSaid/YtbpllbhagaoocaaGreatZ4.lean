import Derived.Test.YtbpllbhagaoocaaGreatZ3
import Derived.Test.YtbpllbhagaoocaaGreatZ0
import Derived.Lib.SlicesCompact
import Derived.Test.YtbpllbhagaoocaaGreatZ1
import Derived.Test.YtbpllbhagaoocaaGreatZ2
set_option linter.all false
open Option renaming bind_some->nA,isSome_some->nP,getD_none->nb,getD_some->nh
open List renaming pairwise_iff_getElem->nB,getElem_of_mem->nD,mem_singleton->nE,nodup_iff_pairwise_ne->nH,getElem_map->nI,mem_append->nJ,take_length->nL,pairwise_singleton->nM,flatMap->nN,pairwise_append->nO,map_append->nR,countP_eq_zero->nT,replicate->nU,pairwise_cons->nV,length_append->nW,mem_map->nc,getElem?_eq_getElem->nf,length_cons->ng,pairwise_mergeSort->ni,length_nil->nj,length_filter_le->nk,mergeSort_perm->nl,nodup_append->nu,pairwise_map->nv,set->nw
open Int renaming toNat_natCast->nG,le_refl->nK,tmod_eq_emod_of_nonneg->nX,le_of_lt->na
open Bool renaming noConfusion->nQ,not_eq_true'->nZ,false_eq_true->nq
open Option.some renaming inj->nS
open List.Pairwise renaming nil->nY
open Go.Value renaming int->np
open Nat renaming zero_add->nr,lt_or_ge->nt
namespace Go.KL
open Go.RowKit Go.Lib Go.Sort
def wEd (l:List Int):Option (List Int):=if l.length < 4611686018427387904 then some (Go.Lib.compact l) else none
theorem wHe (l:List Int):(Go.Lib.compact l).length <= l.length:=by
 unfold Go.Lib.compact Go.Lib.compactUpTo
 rw [List.length_map]
 exact Nat.le_trans (nk _ _) (by simp)
theorem wHf {P:Program} {f T:Nat} {A:Option Addr} {c:Nat} {p r:List Int} {w:World} {U:PHeap}
  (H:∀ (blk off cap:Nat) (zs:List Int) (w:World),Go.Sort.Holds (np .i64) w blk off zs.toArray->zs.length <= 9223372036854775807->zs.length <= cap->Calls P f #[.slice (some ⟨blk,off,none⟩) zs.length cap] w fun e w'=>e=.returned (.slice (some ⟨blk,off,none⟩) (Go.Lib.compact zs).length cap)/\∃ q,w'=Go.Sort.putRow (np .i64) (Go.Sort.ahead w q) blk off (Go.Lib.compact zs ++ nU (zs.length - (Go.Lib.compact zs).length) 0).toArray)
  (HN:∀ (p:Option Addr) (cap:Nat) (w:World),Calls P f #[.slice p 0 cap] w fun e w'=>e=.returned (.slice p 0 cap)/\w'=w)
  (hS:St ⟨w,[.row A c T 1 (nN encI p)],U⟩ U [.row A c T 1 (nN encI p)] w) (hm:wEd p=some r) :
  Gv P f [.slice A p.length c] w (wCO w [.row A c T 1 (nN encI p)] U fun U_ L_ v=>∃ (A0:Option Addr) (c0:Nat),v=.slice A0 r.length c0/\L_=[.row A0 c0 T 1 (nN encI r)]):=by
 unfold wEd at hm
 split at hm
 ·rename_i hlen
  cases hm
  have hfl:∀ l:List Int,l.flatMap encI=l.map (np .i64):=fun l=>wFA l
  have hr:=hS.at_ _ (List.mem_cons_self ..)
  have nil:p=[]->Gv P f [.slice A p.length c] w (wCO w [.row A c T 1 (nN encI p)] U fun U_ L_ v=>∃ (A0:Option Addr) (c0:Nat),v=.slice A0 (Go.Lib.compact p).length c0/\L_=[.row A0 c0 T 1 (nN encI (Go.Lib.compact p))]):=by
   rintro rfl
   refine Calls.mono' (HN A c w) ?_
   rintro e w' ⟨rfl,rfl⟩
   exact ⟨_,rfl,U,_,hS,A,c,rfl,rfl⟩
  rcases hr with ⟨rfl,rfl,h0⟩ | ⟨b,cur,rfl,h1,h2,_⟩
  ·refine nil ?_
   rw [hfl] at h0
   simpa using h0
  ·obtain ⟨g1,g2⟩:=hS.holds (k:=0) rfl
   rw [hfl] at g1 h2
   refine Calls.mono' (H b 0 c p w (wGn _ _ _ _ _ (by simpa using g1)) (by omega) (by simpa using h2)) ?_
   rintro e w' ⟨rfl,n,rfl⟩
   have hl:=wHe p
   have s1:=hS.sorted (k:=0) (n:=n) (os:=#[]) (cs':=(Go.Lib.compact p ++ nU (p.length - (Go.Lib.compact p).length) 0).map (np .i64)) rfl (by rw [hfl];simp;omega)
   have e0:∀ x:World,Go.Sort.grow x #[]=x:=fun x=>by simp [Go.Sort.grow]
   rw [e0,nR] at s1
   have s2:=s1.cutRow (k:=0) rfl
   refine ⟨_,rfl,U,[.row (some ⟨b,0,none⟩) c T 1 (nN encI (Go.Lib.compact p))],?_,_,c,rfl,rfl⟩
   rw [wFm,hfl (Go.Lib.compact p)]
   simpa using s2
 ·cases hm
end Go.KL
namespace Go.Proofs.YtbpllbhagaoocaaGreat
open Go.KL
noncomputable section
structure wAB where
 bytes:List Int
 next:Int
 state:Int
deriving DecidableEq,Inhabited,Repr
structure wAE where
 Laps:Int
 Bibs:List Int
 Times:List (List Int)
deriving DecidableEq,Inhabited,Repr
structure wAC where
 Race:wAE
 done:List Int
 out:List Bool
deriving DecidableEq,Inhabited,Repr
structure wAD where
 Bib:Int
 Done:Int
 Time:Int
 By:Int
deriving DecidableEq,Inhabited,Repr
def wCL (p0:List Int):Option (wAB) :=
 some (⟨p0,0,17⟩:wAB)
def wAJ (p0:wAB) (p1:Int):Option (Int × wAB) :=
 if p1 <= 1 then
  some (0,p0)
 else
  if (↑p0.bytes.length:Int)=0 then
   some (0,p0)
  else
   (rem p0.next (↑p0.bytes.length:Int)).bind fun x10 =>
   (idx p0.bytes x10).bind fun x13 =>
   (quo p0.next (↑p0.bytes.length:Int)).bind fun x20 =>
   (rem (wCw ((wCw ((wCw ((wCw (p0.state * 45)) + (wCw x13))) + (wCw (77 * (wCw x20))))) + 1)) 65519).bind fun x32 =>
   if (wCw x20)=0 then
    if p1 <= 256 then
     (rem (w64 (wCw x13)) p1).bind fun x42 =>
     some (x42,(⟨p0.bytes,w64 (p0.next + 1),x32⟩:wAB))
    else
     (rem (w64 (wCw ((wCw (x32 * 256)) + (wCw x13)))) p1).bind fun x46 =>
     some (x46,(⟨p0.bytes,w64 (p0.next + 1),x32⟩:wAB))
   else
    (rem (w64 (wCw ((wCw (x32 * 256)) + (wCw x13)))) p1).bind fun x50 =>
    some (x50,(⟨p0.bytes,w64 (p0.next + 1),x32⟩:wAB))
def wAI (p0:wAB) (p1:Int) (p2:Int):Option (Int × wAB) :=
 (wAJ p0 (w64 ((w64 (p2 - p1)) + 1))).bind fun (x2,x3) =>
 some (w64 (p1 + x2),x3)
def wAm (p0:wAB) (p1:Int):Option (wAE × wAB) :=
 (wAI p0 1 7).bind fun (x6,x7) =>
 (wAI x7 1 p1).bind fun (x28,x29) =>
 (wBp 0 x28 (fun k99 (l85,x88,x89,l90,l94) =>
  (wAI (⟨l85,x88,x89⟩:wAB) 20 75).bind fun (x131,x132) =>
  (wAJ x132 60).bind fun (x145,x146) =>
  (wAJ x146 (w64 (x6 + 1))).bind fun (x191,x192) =>
  (wAJ x192 2).bind fun (x205,x206) =>
  (wBp 0 (w64 (x6 - (w64 (x191 * x205)))) (fun k260 (l250,x253,x254,x255,l256) =>
   (wAJ (⟨l250,x253,x254⟩:wAB) 9).bind fun (x295,x296) =>
   (app 8 l256 [w64 (x255 + (w64 (x131 + x295)))]).bind fun x314 =>
   some (x296.bytes,x296.next,x296.state,w64 (x255 + (w64 (x131 + x295))),x314)) (x206.bytes,x206.next,x206.state,x145,[])).bind fun (y265,y266,y267,y268,y269) =>
  (wAI (⟨y265,y266,y267⟩:wAB) 1 7).bind fun (x426,x427) =>
  (app 8 l90 [w64 ((w64 (7 * (↑k99:Int))) + x426)]).bind fun x445 =>
  (app 24 l94 [y269]).bind fun x464 =>
  some (x427.bytes,x427.next,x427.state,x445,x464)) (x29.bytes,x29.next,x29.state,[],[])).bind fun (y104,y105,y106,y107,y108) =>
 some ((⟨x6,y107,y108⟩:wAE),(⟨y104,y105,y106⟩:wAB))
def wBr (p0:Int) (p1:Int) (p2:Int):Option (Bool) :=
 if p1 <= p0 then
  some (decide (p0 <= p2))
 else
  some false
def wAp (p0:List Int) (p1:wAE):Option (Bool) :=
 some (decide ((↑p0.length:Int) <= p1.Laps))
def wBL (p0:List (List Int)) (p1:((List Int)->Option Bool)):Option (Bool) :=
 jn (wCu 0 (↑p0.length:Int) (fun k2 _ =>
  (idx p0 (↑k2:Int)).bind fun x22 =>
  (p1 x22).bind fun x35 =>
  if x35=true then
   some (.inl ())
  else
   esc (some false)) ()) fun _ =>
 some true
def wAv (p0:List Int) (p1:(Int->Option Bool)):Option (Bool) :=
 jn (wCu 0 (↑p0.length:Int) (fun k2 _ =>
  (idx p0 (↑k2:Int)).bind fun x22 =>
  (p1 x22).bind fun x30 =>
  if x30=true then
   some (.inl ())
  else
   esc (some false)) ()) fun _ =>
 some true
def wAq (p0:Int):Option (Bool) :=
 (wBr p0 1 999).bind fun x1 =>
 some x1
def wAk (p0:Int):Option (Bool) :=
 (wBr p0 0 360000).bind fun x1 =>
 some x1
def wAr (p0:List Int):Option (Bool) :=
 (wAv p0 wAk).bind fun x2 =>
 some x2
def wBo (p0:List Int):Option (Bool) :=
 jn (wCu 0 (↑p0.length:Int) (fun k20 l17 =>
  (idx p0 (↑k20:Int)).bind fun x41 =>
  if (wBj l17 x41 false)=true then
   esc (some true)
  else
   some (.inl (mput l17 x41 true))) ([]:List (Int × Bool))) fun y68 =>
 some false
def wBG (p0:wAE):Option (Int) :=
 (wBr p0.Laps 1 20).bind fun x10 =>
 if x10=true then
  if 60 < (↑p0.Bibs.length:Int) then
   some 2
  else
   if (↑p0.Times.length:Int)=(↑p0.Bibs.length:Int) then
    (wBL p0.Times (fun x=>wAp x p0)).bind fun x33 =>
    if x33=true then
     (wAv p0.Bibs wAq).bind fun x48 =>
     if x48=true then
      (wBL p0.Times wAr).bind fun x64 =>
      if x64=true then
       (wBo p0.Bibs).bind fun x79 =>
       if x79=true then
        some 5
       else
        jn (wCu 0 (↑p0.Times.length:Int) (fun k97 _ =>
         (idx p0.Times (↑k97:Int)).bind fun x116 =>
         jn (wCu 1 (↑x116.length:Int) (fun k132 _ =>
          (idx x116 (1 + ↑k132:Int)).bind fun x155 =>
          (idx x116 (w64 ((1 + ↑k132:Int) - 1))).bind fun x163 =>
          if x155 <= x163 then
           esc (esc (some 4))
          else
           some (.inl ())) ()) fun _ =>
         some (.inl ())) ()) fun _ =>
        some 0
      else
       some 3
     else
      some 3
    else
     some 2
   else
    some 2
 else
  some 2
def wAt (p0:List Int) (p1:Int):Option ((List Int)) :=
 if p1 < 0 then
  none
 else
  if 0 < (w64 (p1 - 0)) then
   (appZ 8 (w64 (p1 - 0)) (0:Int)).bind fun x6 =>
   some ([]:List Int)
  else
   some []
def wAl (p0:List (List Int)):Option ((List Int)) :=
 (wBp 0 (↑p0.length:Int) (fun k7 x6 =>
  (idx p0 (↑k7:Int)).bind fun x29 =>
  if (w64 (x6 + (↑x29.length:Int))) < 0 then
   none
  else
   some (w64 (x6 + (↑x29.length:Int)))) 0).bind fun y12 =>
 (wAt [] y12).bind fun x59 =>
 (wBp 0 (↑p0.length:Int) (fun k86 l83 =>
  (idx p0 (↑k86:Int)).bind fun x107 =>
  (app 8 l83 x107).bind fun x122 =>
  some x122) x59).bind fun y91 =>
 some y91
def wBJ (p0:List Int):Option (List Int):=wLj p0
def wAw (p0:List Int):Option (List Int):=wEd p0
def wAY {S E:Type} (f:S->Int->Option (S ⊕ E)) (s0:S) (p1:List Int):Option (S ⊕ E) :=
 jn (wCu 0 (↑p1.length:Int) (fun k12 s10 =>
  (idx p1 (↑k12:Int)).bind fun x33 =>
  (f s10 x33).bind fun yr41 =>
  match yr41 with
  | .inl s51 =>
   some (.inl s51)
  | .inr s51 =>
   esc (some (.inr s51))) s0) fun y65 =>
 some (.inl y65)
def wBD (p0:List Int):Option (Unit) :=
 some ()
def wAx (p0:wAE):Option ((List Int)) :=
 (wAl p0.Times).bind fun x5 =>
 (wBJ x5).bind fun x18 =>
 (wAw x18).bind fun x29 =>
 (wBD x29).bind fun _ =>
 some x29
def wAe (p0:wAC) (p1:Int) (p2:Int) (p3:Int):Option (Int) :=
 (wBp 0 (↑p0.done.length:Int) (fun k7 x6 =>
  ((idx p0.done (↑k7:Int)).bind fun x35 =>
  (idx p0.out (↑k7:Int)).bind fun x46 =>
  if x46=true then
   some x6
  else
   if (w64 (p2 + 2)) <= x35 then
    (idx p0.Race.Times (↑k7:Int)).bind fun x60 =>
    (idx x60 (w64 (x35 - 1))).bind fun x73 =>
    if x73=p3 then
     if x6 < 0 then
      some (↑k7:Int)
     else
      (idx p0.Race.Bibs (↑k7:Int)).bind fun x96 =>
      (idx p0.Race.Bibs x6).bind fun x104 =>
      if x96 < x104 then
       some (↑k7:Int)
      else
       some x6
    else
     some x6
   else
    some x6).bind fun x31 =>
  some x31) (-1)).bind fun y12 =>
 some y12
def wAf (p0:wAC) (p1:Int):Option ((List Int) × wAC) :=
 (wBp 0 (↑p0.Race.Times.length:Int) (fun k10 l9 =>
  (idx p0.Race.Times (↑k10:Int)).bind fun x33 =>
  (chk (↑k10:Int) l9.length).bind fun _ =>
  (chk (↑k10:Int) p0.out.length).bind fun _ =>
  if (gd p0.out k10)=true then
   some l9
  else
   if (gd l9 k10) < (↑x33.length:Int) then
    (idx x33 (gd l9 k10)).bind fun x62 =>
    if x62=p1 then
     some (nw l9 k10 (w64 ((gd l9 k10) + 1)))
    else
     some l9
   else
    some l9) p0.done).bind fun y15 =>
 (wBp 0 (↑y15.length:Int) (fun k121 l117 =>
  (chk (↑k121:Int) y15.length).bind fun _ =>
  (chk (↑k121:Int) p0.out.length).bind fun _ =>
  if (gd p0.out k121)=true then
   some l117
  else
   (wAe (⟨p0.Race,y15,p0.out⟩:wAC) (↑k121:Int) (gd y15 k121) p1).bind fun x193 =>
   if 0 <= x193 then
    (app 8 l117 [(↑k121:Int)]).bind fun x222 =>
    some x222
   else
    some l117) []).bind fun y126 =>
 some (y126,(⟨p0.Race,y15,p0.out⟩:wAC))
noncomputable def wAU (p0:List wAD) (p1:((wAD × wAD)->Option Int)):Option (List wAD):=wKL p1 p0
def wBX (p0:Int):Option (Bool) :=
 some (decide (¬ (p0=p0)))
def wBH (p0:Int) (p1:Int):Option (Int) :=
 (wBX p0).bind fun x1 =>
 (wBX p1).bind fun x11 =>
 if x1=true then
  if x11=true then
   some 0
  else
   some (-1)
 else
  if x11=true then
   some 1
  else
   if p0 < p1 then
    some (-1)
   else
    if p1 < p0 then
     some 1
    else
     some 0
def wCA (p0:List Int):Option (Int) :=
 jn (wCu 0 (↑p0.length:Int) (fun k2 _ =>
  (idx p0 (↑k2:Int)).bind fun x22 =>
  if x22=0 then
   some (.inl ())
  else
   esc (some x22)) ()) fun _ =>
 some 0
def wAb (p0:wAD) (p1:wAD):Option (Int) :=
 (wBH p0.Time p1.Time).bind fun x11 =>
 (wBH p0.Bib p1.Bib).bind fun x21 =>
 (wCA [x11,x21]).bind fun x41 =>
 some x41
def wBY (p0:wAE):Option (wAC × (List wAD)) :=
 ((mkz 8 (↑p0.Bibs.length:Int) (0:Int)).bind fun x18 =>
 (mkz 1 (↑p0.Bibs.length:Int) false).bind fun x26 =>
 some (x18,x26)).bind fun (l9,l12) =>
 (wAx p0).bind fun x520 =>
 (wAY (S:=(List wAD) × Int × (List Int) × (List (List Int)) × (List Int) × (List Bool)) (E:=Empty) (fun (l1081,x1085,l1086,l1089,l1092,l1095) x1124 =>
  (wAf (⟨(⟨x1085,l1086,l1089⟩:wAE),l1092,l1095⟩:wAC) x1124).bind fun (x1150,x1151) =>
  (wBp 0 (↑x1150.length:Int) (fun k1191 l1188 =>
   (chk (↑k1191:Int) x1150.length).bind fun _ =>
   (idx x1151.Race.Bibs (gd x1150 k1191)).bind fun x1222 =>
   (chk (gd x1150 k1191) x1151.done.length).bind fun _ =>
   (wAe x1151 (gd x1150 k1191) (gd x1151.done (gd x1150 k1191).toNat) x1124).bind fun x1264 =>
   (idx x1151.Race.Bibs x1264).bind fun x1286 =>
   (app 32 l1188 [(⟨x1222,(gd x1151.done (gd x1150 k1191).toNat),x1124,x1286⟩:wAD)]).bind fun x1299 =>
   some x1299) l1081).bind fun y1196 =>
  (wBp 0 (↑x1150.length:Int) (fun k1338 l1337 =>
   (chk (↑k1338:Int) x1150.length).bind fun _ =>
   (chk (gd x1150 k1338) l1337.length).bind fun _ =>
   some (nw l1337 (gd x1150 k1338).toNat true)) x1151.out).bind fun y1343 =>
  some (.inl (y1196,x1151.Race.Laps,x1151.Race.Bibs,x1151.Race.Times,x1151.done,y1343))) ([],p0.Laps,p0.Bibs,p0.Times,l9,l12) x520).bind fun rr1118 =>
 match rr1118 with
 | .inl (y1416,y1417,y1418,y1419,y1420,y1421) =>
  (wAU y1416 (fun x=>wAb x.1 x.2)).bind fun x1438 =>
  some ((⟨(⟨y1417,y1418,y1419⟩:wAE),y1420,y1421⟩:wAC),x1438)
 | .inr e1432 =>
  e1432.elim
def wAs (p0:wAE):Option ((List wAD) × Int) :=
 (wBG p0).bind fun x5 =>
 if x5=0 then
  (wBY p0).bind fun (x19,x20) =>
  some (x20,0)
 else
  some ([],x5)
def wBM (p0:wAE):Option ((List Int) × Int) :=
 (wBG p0).bind fun x5 =>
 if x5=0 then
  (wBY p0).bind fun (x19,x20) =>
  some (x19.done,0)
 else
  some ([],x5)
def wAN (p0:List Int) (p1:Int):Option (Int) :=
 jn (wCu 0 (↑p0.length:Int) (fun k2 _ =>
  (idx p0 (↑k2:Int)).bind fun x22 =>
  if p1=x22 then
   esc (some (↑k2:Int))
  else
   some (.inl ())) ()) fun _ =>
 some (-1)
def wAZ (p0:List Int) (p1:Int):Option (Bool) :=
 (wAN p0 p1).bind fun x1 =>
 some (decide (0 <= x1))
def wAO (p0:wAD) (p1:Int):Option (Bool) :=
 some (decide (p0.Bib=p1))
def wAK (p0:List wAD) (p1:(wAD->Option Bool)):Option (Int) :=
 jn (wCu 0 (↑p0.length:Int) (fun k2 _ =>
  (idx p0 (↑k2:Int)).bind fun x22 =>
  (p1 x22).bind fun x30 =>
  if x30=true then
   esc (some (↑k2:Int))
  else
   some (.inl ())) ()) fun _ =>
 some (-1)
def wBc:Option Bool:=some true
def wAn (p0:List Int):Option (Bool) :=
 (wCL p0).bind fun x1 =>
 (wAm x1 12).bind fun (x16,x17) =>
 (wAs x16).bind fun (x57,x58) =>
 (wBM x16).bind fun (x73,x74) =>
 if x58=0 then
  if x74=0 then
   if (↑x73.length:Int)=(↑x16.Bibs.length:Int) then
    jn (wCu 0 (↑x57.length:Int) (fun k112 l109 =>
     (chk (↑k112:Int) x57.length).bind fun _ =>
     (if (wDs l109 ((gd x57 k112).Bib))=true then
      some true
     else
      (wAZ x16.Bibs ((gd x57 k112).Bib)).bind fun x160 =>
      if x160=true then
       if 0 < (↑k112:Int) then
        (chk (w64 ((↑k112:Int) - 1)) x57.length).bind fun _ =>
        if ((gd x57 k112).Time) < ((gd x57 (w64 ((↑k112:Int) - 1)).toNat).Time) then
         some true
        else
         if ((gd x57 (w64 ((↑k112:Int) - 1)).toNat).Time)=((gd x57 k112).Time) then
          some (decide (((gd x57 k112).Bib) <= ((gd x57 (w64 ((↑k112:Int) - 1)).toNat).Bib)))
         else
          some false
       else
        some false
      else
       some true).bind fun b148 =>
     if b148=true then
      esc (some false)
     else
      some (.inl (mput l109 ((gd x57 k112).Bib) ((gd x57 k112).Time)))) ([]:List (Int × Int))) fun y225 =>
    jn (wCu 0 (↑x16.Bibs.length:Int) (fun k283 (l274,l278) =>
     (idx x16.Bibs (↑k283:Int)).bind fun x312 =>
     (idx x16.Times (↑k283:Int)).bind fun x322 =>
     jn (wCu 0 (↑x322.length:Int) (fun k339 _ =>
      (chk (↑k283:Int) x73.length).bind fun _ =>
      if (wDs y225 x312)=true then
       (idx x322 (↑k339:Int)).bind fun x388 =>
       if ((decide ((↑k339:Int) < (gd x73 k283))) == (decide (x388 <= (wBj y225 x312 0))))=true then
        some (.inl ())
       else
        esc (esc (some false))
      else
       if ((decide ((↑k339:Int) < (gd x73 k283))) == true)=true then
        some (.inl ())
       else
        esc (esc (some false))) ()) fun _ =>
     (chk (↑k283:Int) x73.length).bind fun _ =>
     if (↑x322.length:Int) < (gd x73 k283) then
      esc (some false)
     else
      if (gd x73 k283) < 0 then
       esc (some false)
      else
       if (wDs y225 x312)=true then
        some (.inl (l274,l278))
       else
        (app 8 l274 [x312]).bind fun x482 =>
        (app 24 l278 [x322]).bind fun x505 =>
        some (.inl (x482,x505))) ([],[])) fun (y2505,y2506) =>
    jn (wCu 0 (↑x16.Bibs.length:Int) (fun k2533 _ =>
     (idx x16.Bibs (↑k2533:Int)).bind fun x2557 =>
     (chk (↑k2533:Int) x73.length).bind fun _ =>
     jn (wCu 0 (gd x73 k2533) (fun k2576 _ =>
      (idx x16.Times (↑k2533:Int)).bind fun x2604 =>
      (idx x2604 (↑k2576:Int)).bind fun x2622 =>
      jn (wCu 0 (↑x16.Bibs.length:Int) (fun k2631 _ =>
       (idx x16.Bibs (↑k2631:Int)).bind fun x2664 =>
       (idx x16.Times (↑k2631:Int)).bind fun x2680 =>
       (wBp 0 (↑x2680.length:Int) (fun k2699 x2698 =>
        (idx x2680 (↑k2699:Int)).bind fun x2738 =>
        if x2738 <= x2622 then
         some (w64 (x2698 + 1))
        else
         some x2698) 0).bind fun y2704 =>
       (if (w64 (y2704 + 2)) <= (w64 ((↑k2576:Int) + 1)) then
        if (wDs y225 x2664)=true then
         some (decide (x2622 < (wBj y225 x2664 0)))
        else
         some true
       else
        some false).bind fun b2781 =>
       if b2781=true then
        esc (esc (esc (some false)))
       else
        if (wDs y225 x2664)=true then
         if (wBj y225 x2664 0)=x2622 then
          (wAK x57 (fun x=>wAO x x2664)).bind fun x2849 =>
          if x2849 < 0 then
           esc (esc (esc (some false)))
          else
           (idx x57 x2849).bind fun x2871 =>
           if x2871.Done=y2704 then
            if (w64 (y2704 + 2)) <= (w64 ((↑k2576:Int) + 1)) then
             if x2557 < x2871.By then
              esc (esc (esc (some false)))
             else
              some (.inl ())
            else
             some (.inl ())
           else
            esc (esc (esc (some false)))
         else
          some (.inl ())
        else
         some (.inl ())) ()) fun _ =>
      some (.inl ())) ()) fun _ =>
     some (.inl ())) ()) fun _ =>
    jn (wCu 0 (↑x57.length:Int) (fun k2975 _ =>
     (idx x57 (↑k2975:Int)).bind fun x2997 =>
     (wAN x16.Bibs x2997.By).bind fun x3019 =>
     if x3019 < 0 then
      esc (some false)
     else
      (idx x16.Times x3019).bind fun x3037 =>
      (wAN x3037 x2997.Time).bind fun x3056 =>
      if x3056 < 0 then
       esc (some false)
      else
       (chk x3019 x73.length).bind fun _ =>
       if (gd x73 x3019.toNat) <= x3056 then
        esc (some false)
       else
        if (w64 (x3056 + 1)) < (w64 (x2997.Done + 2)) then
         esc (some false)
        else
         some (.inl ())) ()) fun _ =>
    (wAs (⟨x16.Laps,y2505,y2506⟩:wAE)).bind fun (x3118,x3119) =>
    if x3119=0 then
     if (↑x3118.length:Int)=0 then
      (wBc).bind fun x3136 =>
      some x3136
     else
      some false
    else
     some false
   else
    some false
  else
   some false
 else
  some false
end
end Go.Proofs.YtbpllbhagaoocaaGreat
namespace Go.Proofs.YtbpllbhagaoocaaGreat
open Go.KL
def cn (l:List Int) (t:Int):Nat:=l.countP fun x=>decide (x <= t)
theorem wEb (l:List Int) (t:Int):cn l t <= l.length:=List.countP_le_length
theorem wLL (l:List Int) {s t:Int} (h:s <= t):cn l s <= cn l t:=List.countP_mono_left fun x _ hx=>by simp at hx ⊢;omega
theorem wHt:∀ {l:List Int} {t:Int} {k:Nat},l.Pairwise (· < ·)->k < l.length->(k < cn l t ↔ gd l k <= t)
 | [],t,k,_,hk=>by simp at hk
 | a :: l,t,0,h,_=>by
  show 0 < cn (a :: l) t ↔ a <= t
  unfold cn
  rw [List.countP_cons]
  by_cases c:a <= t
  ·simp [c]
  ·simp only [c,decide_false,nq,if_false,Nat.add_zero,iff_false]
   have:l.countP (fun x=>decide (x <= t))=0:=nT.2 fun x hx=>by
    have:=(nV.1 h).1 x hx
    simp;omega
   omega
 | a :: l,t,k + 1,h,hk=>by
  show k + 1 < cn (a :: l) t ↔ gd l k <= t
  have hk':k < l.length:=by simpa using hk
  have ih:=wHt (t:=t) (nV.1 h).2 hk'
  rw [<- ih]
  unfold cn
  rw [List.countP_cons]
  by_cases c:a <= t
  ·simp [c]
  ·have h1:l.countP (fun x=>decide (x <= t))=0:=nT.2 fun x hx=>by
    have:=(nV.1 h).1 x hx
    simp;omega
   simp [c,h1]
theorem wNy {l:List Int} (h:l.Pairwise (· < ·)) {k:Nat} (hk:k < l.length):cn l (gd l k)=k + 1:=by
 have h1:=(wHt (t:=gd l k) h hk).2 (nK _)
 have h2:=wEb l (gd l k)
 by_cases e:k + 1=l.length
 ·omega
 ·have h3:=mt (wHt (t:=gd l k) (k:=k + 1) h (by omega)).1
  have h4:gd l k < gd l (k + 1):=by
   have:=nB.1 h k (k + 1) hk (by omega) (by omega)
   rwa [<- wBS hk,<- wBS (by omega)] at this
  have:=h3 (by omega)
  omega
theorem wMn {l:List Int} (h:l.Pairwise (· < ·)) {t:Int} (ht:t ∈ l):0 < cn l t/\cn l t <= l.length/\gd l (cn l t - 1)=t:=by
 obtain ⟨k,hk,e⟩:=nD ht
 have e':gd l k=t:=by rw [wBS hk,e]
 have:=wNy h hk
 rw [e'] at this
 refine ⟨by omega,wEb _ _,?_⟩
 rw [this];exact e'
theorem wNz {l:List Int} (h:l.Pairwise (· < ·)) {s t:Int} (hst:s < t) (hno:∀ x ∈ l,s < x->t <= x) :
  cn l t=if cn l s < l.length/\gd l (cn l s)=t then cn l s + 1 else cn l s:=by
 have h0:=wEb l s
 have hm:=wLL l (show s <= t by omega)
 by_cases hl:cn l s < l.length
 ·have h1:s < gd l (cn l s):=by
   have:=mt (wHt (t:=s) h hl).2 (by omega)
   omega
  have h2:=hno _ (wAS hl) h1
  by_cases e:gd l (cn l s)=t
  ·rw [if_pos ⟨hl,e⟩]
   have:=wNy h hl
   rw [e] at this
   exact this
  ·rw [if_neg (fun c=>e c.2)]
   have:=mt (wHt (t:=t) h hl).1 (by omega)
   omega
 ·rw [if_neg (fun c=>hl c.1)]
  have:=wEb l t
  omega
def Lp (p:wAC) (d time:Int) (j:Nat):Prop:=j < p.done.length/\gd p.out j=false/\d + 2 <= gd p.done j/\gd (gd p.Race.Times j) ((gd p.done j) - 1).toNat=time
structure wHB (p:wAC):Prop where
 n:p.done.length <= 60
 o:p.out.length=p.done.length
 b:p.Race.Bibs.length=p.done.length
 t:p.Race.Times.length=p.done.length
 d0:∀ i,i < p.done.length->0 <= gd p.done i/\gd p.done i <= (gd p.Race.Times i).length
 len:∀ l ∈ p.Race.Times,l.length <= 1000
def ByP (p:wAC) (d time:Int) (n:Nat) (x:Int):Prop :=
 (x=-1/\∀ j,j < n->¬ Lp p d time j) \/ ∃ j:Nat,x=j/\j < n/\Lp p d time j/\∀ i,i < n->Lp p d time i->gd p.Race.Bibs j <= gd p.Race.Bibs i
theorem wCC {S:Type} {body:Nat->S->Option S} {n:Nat} {s0:S} (I:Nat->S->Prop) (hn:n <= 1000) (h0:I 0 s0) (h:∀ i s,i < n->I i s->∃ s',body i s=some s'/\I (i + 1) s'):∃ s,wBp 0 (n:Int) body s0=some s/\I n s:=by
 rw [wFw (by omega)]
 have:=wGy (body:=body) I n 0 s0 h0 fun i s _ h2 h3=>h i s (by omega) h3
 rwa [nr] at this
theorem wPQ {p:wAC} (G:wHB p) (i d time:Int) (hd0:0 <= d) (hd1:d <= 1000):∃ x,wAe p i d time=some x/\ByP p d time p.done.length x:=by
 unfold wAe
 have hn:=G.n
 obtain ⟨x,e,hx⟩:=wCC (body:=fun (k10:Nat) (x9:Int) =>
  ((idx p.done (↑k10:Int)).bind fun x35 =>
  (idx p.out (↑k10:Int)).bind fun x46 =>
  if x46=true then
   some x9
  else
   if (w64 (d + 2)) <= x35 then
    (idx p.Race.Times (↑k10:Int)).bind fun x60 =>
    (idx x60 (w64 (x35 - 1))).bind fun x73 =>
    if x73=time then
     if x9 < 0 then
      some (↑k10:Int)
     else
      (idx p.Race.Bibs (↑k10:Int)).bind fun x92 =>
      (idx p.Race.Bibs x9).bind fun x100 =>
      if x92 < x100 then
       some (↑k10:Int)
      else
       some x9
    else
     some x9
   else
    some x9).bind fun x34 =>
  some x34) (n:=p.done.length) (s0:=(-1:Int)) (fun k x=>ByP p d time k x) (by omega) (.inl ⟨rfl,fun j hj=>by omega⟩) (fun k x hk hx=>by
   have hd:=G.d0 k hk
   have ho:=G.o
   have hb:=G.b
   have ht:=G.t
   have hll:=G.len _ (wAS (l:=p.Race.Times) (k:=k) (by omega))
   simp only [wNx]
   rw [wAh hk,nA,wAh (by omega),nA,wAa (by omega) (by omega)]
   have skip:¬ Lp p d time k->ByP p d time (k + 1) x:=fun hno=>by
    rcases hx with ⟨h1,h2⟩ | ⟨j,h1,h2,h3,h4⟩
    ·exact .inl ⟨h1,fun j hj=>by
      by_cases e:j=k
      ·exact e ▸ hno
      ·exact h2 j (by omega)⟩
    ·exact .inr ⟨j,h1,by omega,h3,fun i hi hL=>by
      by_cases e:i=k
      ·exact absurd (e ▸ hL) hno
      ·exact h4 i (by omega) hL⟩
   by_cases c1:gd p.out k=true
   ·rw [if_pos c1]
    exact ⟨x,rfl,skip fun h=>by have:=h.2.1;rw [c1] at this;exact nQ this⟩
   rw [if_neg c1]
   by_cases c2:d + 2 <= gd p.done k
   ·have e1:(gd p.done k) - 1=((((gd p.done k) - 1).toNat:Nat):Int):=by omega
    rw [if_pos c2,wAh (by omega),nA,wAa (by omega) (by omega),e1,wAh (by omega),nA]
    by_cases c3:gd (gd p.Race.Times k) ((gd p.done k) - 1).toNat=time
    ·have hL:Lp p d time k:=⟨hk,by simpa using c1,c2,c3⟩
     rw [if_pos c3]
     rcases hx with ⟨h1,h2⟩ | ⟨j,h1,h2,h3,h4⟩
     ·rw [if_pos (by omega)]
      exact ⟨_,rfl,.inr ⟨k,rfl,by omega,hL,fun i hi hL'=>by
       by_cases e:i=k
       ·subst e;exact nK _
       ·exact absurd hL' (h2 i (by omega))⟩⟩
     ·subst h1
      rw [if_neg (by omega),wAh (by omega),nA,wAh (by omega),nA]
      by_cases c4:gd p.Race.Bibs k < gd p.Race.Bibs j
      ·rw [if_pos c4]
       exact ⟨_,rfl,.inr ⟨k,rfl,by omega,hL,fun i hi hL'=>by
        by_cases e:i=k
        ·subst e;exact nK _
        ·have:=h4 i (by omega) hL'
         omega⟩⟩
      ·rw [if_neg c4]
       exact ⟨_,rfl,.inr ⟨j,rfl,by omega,h3,fun i hi hL'=>by
        by_cases e:i=k
        ·subst e;omega
        ·exact h4 i (by omega) hL'⟩⟩
    ·rw [if_neg c3]
     exact ⟨x,rfl,skip fun h=>c3 h.2.2.2⟩
   ·rw [if_neg c2]
    exact ⟨x,rfl,skip fun h=>c2 h.2.2.1⟩)
 rw [e,nA]
 exact ⟨x,rfl,hx⟩
end Go.Proofs.YtbpllbhagaoocaaGreat
namespace Go.Proofs.YtbpllbhagaoocaaGreat
open Go.KL
def nx (p:wAC) (t:Int) (i:Nat):Int:=if gd p.out i=false/\gd p.done i < (gd p.Race.Times i).length/\gd (gd p.Race.Times i) (gd p.done i).toNat=t then gd p.done i + 1 else gd p.done i
def st1 (p0:wAC) (p1:Int):Nat->List Int->Option (List Int):=fun k10 l9 =>
  (idx p0.Race.Times (↑k10:Int)).bind fun x33 =>
  (chk (↑k10:Int) l9.length).bind fun _ =>
  (chk (↑k10:Int) p0.out.length).bind fun _ =>
  if (gd p0.out k10)=true then
   some l9
  else
   if (gd l9 k10) < (↑x33.length:Int) then
    (idx x33 (gd l9 k10)).bind fun x62 =>
    if x62=p1 then
     some (nw l9 k10 (w64 ((gd l9 k10) + 1)))
    else
     some l9
   else
    some l9
def st2 (p0:wAC) (p1:Int) (y15:List Int):Nat->List Int->Option (List Int):=fun k121 l117 =>
  (chk (↑k121:Int) y15.length).bind fun _ =>
  (chk (↑k121:Int) p0.out.length).bind fun _ =>
  if (gd p0.out k121)=true then
   some l117
  else
   (wAe (⟨p0.Race,y15,p0.out⟩:wAC) (↑k121:Int) (gd y15 k121) p1).bind fun x193 =>
   if 0 <= x193 then
    (app 8 l117 [(↑k121:Int)]).bind fun x222 =>
    some x222
   else
    some l117
theorem wHu (p0:wAC) (p1:Int):wAf p0 p1=(wBp 0 (↑p0.Race.Times.length:Int) (st1 p0 p1) p0.done).bind fun y =>
 (wBp 0 (↑y.length:Int) (st2 p0 p1 y) []).bind fun z=>some (z,(⟨p0.Race,y,p0.out⟩:wAC)):=rfl
theorem wPR {p:wAC} (G:wHB p) (t:Int):∃ y,wBp 0 (↑p.Race.Times.length:Int) (st1 p t) p.done=some y/\y.length=p.done.length/\∀ i,i < p.done.length->gd y i=nx p t i:=by
 have hn:=G.n
 have ho:=G.o
 have ht:=G.t
 obtain ⟨y,e,h1,h2⟩:=wCC (body:=st1 p t) (n:=p.Race.Times.length) (s0:=p.done) (fun k y=>y.length=p.done.length/\∀ i,i < p.done.length->gd y i=if i < k then nx p t i else gd p.done i) (by omega) ⟨rfl,fun i _=>by rw [if_neg (by omega)]⟩ (fun k y hk ⟨h1,h2⟩=>by
  have hk':k < p.done.length:=by omega
  have hd:=G.d0 k hk'
  have hll:=G.len _ (wAS (l:=p.Race.Times) (k:=k) hk)
  have hyk:gd y k=gd p.done k:=by rw [h2 k hk',if_neg (by omega)]
  have keep:nx p t k=gd p.done k->∀ i,i < p.done.length->gd y i=if i < k + 1 then nx p t i else gd p.done i:=fun e i hi=>by
   rw [h2 i hi]
   by_cases c:i=k
   ·subst c
    rw [if_neg (by omega),if_pos (by omega),e]
   ·by_cases c2:i < k
    ·rw [if_pos c2,if_pos (by omega)]
    ·rw [if_neg c2,if_neg (by omega)]
  unfold st1
  rw [wAh hk,nA,wCb (by omega) (by omega),nA,wCb (by omega) (by omega),nA,hyk]
  by_cases c1:gd p.out k=true
  ·rw [if_pos c1]
   exact ⟨y,rfl,h1,keep (if_neg (fun h=>by rw [c1] at h;exact nQ h.1))⟩
  have c1':gd p.out k=false:=by simpa using c1
  rw [if_neg c1]
  by_cases c2:gd p.done k < ((gd p.Race.Times k).length:Int)
  ·have e1:idx (gd p.Race.Times k) (gd p.done k)=some (gd (gd p.Race.Times k) (gd p.done k).toNat):=by
    unfold idx
    rw [if_pos hd.1,wBW (by omega)]
   rw [if_pos c2,e1,nA]
   by_cases c3:gd (gd p.Race.Times k) (gd p.done k).toNat=t
   ·have en:nx p t k=gd p.done k + 1:=if_pos ⟨c1',c2,c3⟩
    rw [if_pos c3,wAa (by omega) (by omega)]
    refine ⟨_,rfl,by simpa using h1,fun i hi=>?_⟩
    rw [wMm (by omega) (by omega)]
    by_cases c:i=k
    ·subst c
     rw [if_pos rfl,if_pos (by omega),en]
    ·rw [if_neg c,h2 i hi]
     by_cases c4:i < k
     ·rw [if_pos c4,if_pos (by omega)]
     ·rw [if_neg c4,if_neg (by omega)]
   ·rw [if_neg c3]
    exact ⟨y,rfl,h1,keep (if_neg (fun h=>c3 h.2.2))⟩
  ·rw [if_neg c2]
   exact ⟨y,rfl,h1,keep (if_neg (fun h=>c2 h.2.1))⟩)
 exact ⟨y,e,h1,fun i hi=>by rw [h2 i hi,if_pos (by omega)]⟩
theorem nx_le {p:wAC} (G:wHB p) (t:Int) {i:Nat} (hi:i < p.done.length):0 <= nx p t i/\nx p t i <= (gd p.Race.Times i).length:=by
 have:=G.d0 i hi
 unfold nx
 split <;> omega
theorem wOA {p:wAC} (G:wHB p) (t:Int):∃ z y,wAf p t=some (z,(⟨p.Race,y,p.out⟩:wAC))/\y.length=p.done.length/\(∀ i,i < p.done.length->gd y i=nx p t i)/\wHB (⟨p.Race,y,p.out⟩:wAC) /\
  z.Pairwise (· < ·)/\∀ x,x ∈ z ↔ ∃ i:Nat,x=i/\i < p.done.length/\gd p.out i=false/\∃ j,Lp (⟨p.Race,y,p.out⟩:wAC) (gd y i) t j:=by
 rw [wHu]
 have hn:=G.n
 obtain ⟨y,e,h1,h2⟩:=wPR G t
 rw [e,nA]
 have G':wHB (⟨p.Race,y,p.out⟩:wAC):=⟨by show y.length <= 60;omega,by show p.out.length=y.length;rw [h1];exact G.o,by show p.Race.Bibs.length=y.length;rw [h1];exact G.b,by show p.Race.Times.length=y.length;rw [h1];exact G.t,fun i hi=>by
  have hi':i < p.done.length:=by rw [<- h1];exact hi
  show 0 <= gd y i/\gd y i <= _
  rw [h2 i hi']
  exact nx_le G t hi',G.len⟩
 obtain ⟨z,ez,z1,z2⟩:=wCC (body:=st2 p t y) (n:=y.length) (s0:=[]) (fun k z=>z.Pairwise (· < ·)/\∀ x,x ∈ z ↔ ∃ i:Nat,x=i/\i < k/\gd p.out i=false/\∃ j,Lp (⟨p.Race,y,p.out⟩:wAC) (gd y i) t j) (by omega) ⟨nY,fun x=>by simp⟩ (fun k z hk ⟨z1,z2⟩=>by
  have hk':k < p.done.length:=by omega
  have ho:=G.o
  have hyk:=G'.d0 k hk
  have hll:=G.len _ (wAS (l:=p.Race.Times) (k:=k) (by have:=G.t;omega))
  have hzl:z.length <= k:=by
   have hsub:∀ x ∈ z,0 <= x/\x < k:=fun x hx=>by
    obtain ⟨i,rfl,hi,_⟩:=(z2 x).1 hx
    omega
   rcases nt k z.length with c | c
   ·exfalso
    have key:∀ (m:Nat),m < z.length->(m:Int) <= gd z m:=by
     intro m
     induction m with
     | zero=>intro hm;exact (hsub _ (wAS hm)).1
     | succ m ih =>
      intro hm
      have h3:=ih (by omega)
      have h4:=nB.1 z1 m (m + 1) (by omega) hm (by omega)
      rw [<- wBS (by omega),<- wBS hm] at h4
      omega
    have h5:=key k c
    have h6:=(hsub _ (wAS c)).2
    omega
   ·exact c
  have skip:¬ (gd p.out k=false/\∃ j,Lp (⟨p.Race,y,p.out⟩:wAC) (gd y k) t j)->∀ x,x ∈ z ↔ ∃ i:Nat,x=i/\i < k + 1/\gd p.out i=false/\∃ j,Lp (⟨p.Race,y,p.out⟩:wAC) (gd y i) t j:=fun hno x=>by
   rw [z2]
   constructor
   ·rintro ⟨i,h1,h2,h3⟩
    exact ⟨i,h1,by omega,h3⟩
   ·rintro ⟨i,h1,h2,h3⟩
    by_cases c:i=k
    ·exact absurd (c ▸ h3) hno
    ·exact ⟨i,h1,by omega,h3⟩
  unfold st2
  rw [wCb (by omega) (by omega),nA,wCb (by omega) (by omega),nA]
  by_cases c1:gd p.out k=true
  ·rw [if_pos c1]
   exact ⟨z,rfl,z1,skip (fun h=>by have:=h.1;rw [c1] at this;exact nQ this)⟩
  have c1':gd p.out k=false:=by simpa using c1
  obtain ⟨x,ex,hx⟩:=wPQ G' (k:Int) (gd y k) t hyk.1 (by
   have:=hyk.2
   simp only at this
   omega)
  rw [if_neg c1,ex,nA]
  rcases hx with ⟨h3,h4⟩ | ⟨j,h3,h4,h5,_⟩
  ·rw [if_neg (by omega)]
   exact ⟨z,rfl,z1,skip (fun h=>by obtain ⟨_,j,hj⟩:=h;exact h4 j hj.1 hj)⟩
  ·rw [if_pos (by omega),wEX (by simp;omega),nA]
   refine ⟨_,rfl,?_,fun x=>?_⟩
   ·rw [nO]
    refine ⟨z1,nM _ _,fun a ha b hb=>?_⟩
    obtain ⟨i,rfl,hi,_⟩:=(z2 a).1 ha
    have:=nE.1 hb
    omega
   ·rw [nJ,z2,nE]
    constructor
    ·rintro (⟨i,h1,h2,h3⟩ | h)
     ·exact ⟨i,h1,by omega,h3⟩
     ·exact ⟨k,h,by omega,c1',j,h5⟩
    ·rintro ⟨i,h1,h2,h3⟩
     by_cases c:i=k
     ·exact .inr (by rw [h1,c])
     ·exact .inl ⟨i,h1,by omega,h3⟩)
 rw [ez,nA]
 refine ⟨z,y,rfl,h1,h2,G',z1,fun x=>?_⟩
 rw [z2,h1]
end Go.Proofs.YtbpllbhagaoocaaGreat
namespace Go.Proofs.YtbpllbhagaoocaaGreat
open Go.KL
def rA (p:wAC) (z:List Int) (t:Int) (k1191:Nat) (l1188:List wAD):Option (List wAD) :=
      (chk (↑k1191:Int) z.length).bind fun _ =>
      (idx p.Race.Bibs (gd z k1191)).bind fun x1222 =>
      (chk (gd z k1191) p.done.length).bind fun _ =>
      (wAe p (gd z k1191) (gd p.done (gd z k1191).toNat) t).bind fun x1264 =>
      (idx p.Race.Bibs x1264).bind fun x1286 =>
      (app 32 l1188 [(⟨x1222,(gd p.done (gd z k1191).toNat),t,x1286⟩:wAD)]).bind fun x1299 =>
      some x1299
def rO (z:List Int) (k1338:Nat) (l1337:List Bool):Option (List Bool) :=
      (chk (↑k1338:Int) z.length).bind fun _ =>
      (chk (gd z k1338) l1337.length).bind fun _ =>
      some (nw l1337 (gd z k1338).toNat true)
abbrev RS:=(List wAD) × Int × (List Int) × (List (List Int)) × (List Int) × (List Bool)
def rB:RS->Int->Option (RS ⊕ Empty)
 | (l1081,x1085,l1086,l1089,l1092,l1095),x1124 =>
  (wAf (⟨(⟨x1085,l1086,l1089⟩:wAE),l1092,l1095⟩:wAC) x1124).bind fun (x1150,x1151) =>
  (wBp 0 (↑x1150.length:Int) (rA x1151 x1150 x1124) l1081).bind fun y1196 =>
  (wBp 0 (↑x1150.length:Int) (rO x1150) x1151.out).bind fun y1343 =>
  some (.inl (y1196,x1151.Race.Laps,x1151.Race.Bibs,x1151.Race.Times,x1151.done,y1343))
theorem wJG (p0:wAE):wBY p0=((mkz 8 (↑p0.Bibs.length:Int) (0:Int)).bind fun x18 =>
 (mkz 1 (↑p0.Bibs.length:Int) false).bind fun x26 =>
 some (x18,x26)).bind fun (l9,l12) =>
 (wAx p0).bind fun x520 =>
 (wAY (S:=RS) (E:=Empty) rB ([],p0.Laps,p0.Bibs,p0.Times,l9,l12) x520).bind fun rr1118 =>
 match rr1118 with
 | .inl (y1416,y1417,y1418,y1419,y1420,y1421) =>
  (wAU y1416 (fun x=>wAb x.1 x.2)).bind fun x1438 =>
  some ((⟨(⟨y1417,y1418,y1419⟩:wAE),y1420,y1421⟩:wAC),x1438)
 | .inr e1432 =>
  e1432.elim:=rfl
theorem wLM {S:Type} {f:S->Int->Option (S ⊕ Empty)} {L:List Int} (I:Nat->S->Prop) {s0:S} (hL:L.length <= 1000000) (h0:I 0 s0) (h:∀ k s,k < L.length->I k s->∃ s',f s (gd L k)=some (.inl s')/\I (k + 1) s'):∃ s',wAY f s0 L=some (.inl s')/\I L.length s':=by
 unfold wAY
 rw [wCg (by omega)]
 have key:∀ body:Nat->S->Option (S ⊕ (S ⊕ Empty)),(∀ k s,k < L.length->I k s->∃ s',body k s=some (.inl s')/\I (k + 1) s')->∃ s',jn (forN body L.length 0 s0) (fun y:S=>some (Sum.inl y:S ⊕ Empty))=some (.inl s')/\I L.length s':=by
  intro body hb
  rcases wGU (body:=body) I (fun _=>False) L.length 0 s0 h0 (fun k s _ hk hI=>.inl (hb k s (by omega) hI)) with ⟨s',e,hs⟩ | ⟨_,_,h⟩
  ·rw [nr] at hs
   exact ⟨s',by rw [e];rfl,hs⟩
  ·exact h.elim
 refine key _ fun k s hk hI=>?_
 obtain ⟨s',e,hs⟩:=h k s hk hI
 refine ⟨s',?_,hs⟩
 rw [wAh hk,nA,e];rfl
structure wJH (r:wAE):Prop where
 n:r.Bibs.length <= 60
 t:r.Times.length=r.Bibs.length
 len:∀ l ∈ r.Times,l.length <= 20
 inc:∀ l ∈ r.Times,l.Pairwise (· < ·)
 pos:∀ l ∈ r.Times,∀ x ∈ l,0 <= x/\x <= 360000
 one:r.Bibs.Nodup
def nbf (τ:Nat->Option Int) (i:Nat) (t:Int):Prop:=∀ s,τ i=some s->t <= s
def lap (r:wAE) (τ:Nat->Option Int) (i:Nat) (t:Int) (j:Nat):Prop :=
 j < r.Bibs.length/\nbf τ j t/\t ∈ gd r.Times j/\cn (gd r.Times i) t + 2 <= cn (gd r.Times j) t
structure Exact (r:wAE) (ts:List Int) (τ:Nat->Option Int):Prop where
 in_:∀ i s,i < r.Bibs.length->τ i=some s->s ∈ ts
 iff:∀ i,i < r.Bibs.length->∀ t ∈ ts,nbf τ i t->(τ i=some t ↔ ∃ j,lap r τ i t j)
structure Ent (r:wAE) (τ:Nat->Option Int) (i:Nat) (o:wAD):Prop where
 bib:o.Bib=gd r.Bibs i
 time:τ i=some o.Time
 done:o.Done=cn (gd r.Times i) o.Time
 by_:∃ j,o.By=gd r.Bibs j/\lap r τ i o.Time j/\∀ k,lap r τ i o.Time k->gd r.Bibs j <= gd r.Bibs k
structure Ents (r:wAE) (τ:Nat->Option Int) (a:List wAD):Prop where
 of:∀ o ∈ a,∃ i,i < r.Bibs.length/\Ent r τ i o
 all:∀ i,i < r.Bibs.length->τ i ≠ none->∃ o ∈ a,o.Bib=gd r.Bibs i
 one:(a.map (·.Bib)).Nodup
def wEL (L:List Int) (k:Nat):Int:=if k=0 then -1 else gd L (k - 1)
structure RInv (r:wAE) (L:List Int) (k:Nat) (s:RS):Prop where
 laps:s.2.1=r.Laps
 bibs:s.2.2.1=r.Bibs
 times:s.2.2.2.1=r.Times
 dl:s.2.2.2.2.1.length=r.Bibs.length
 ol:s.2.2.2.2.2.length=r.Bibs.length
 al:s.1.length <= 60 * k
 tau:∃ τ,(∀ i,i < r.Bibs.length->gd s.2.2.2.2.2 i=(τ i).isSome)/\(∀ i,i < r.Bibs.length->gd s.2.2.2.2.1 i=cn (gd r.Times i) ((τ i).getD (wEL L k)))/\Exact r (L.take k) τ/\Ents r τ s.1
theorem wDP {r:wAE} (G:wJH r) {i j:Nat} (hi:i < r.Bibs.length) (hj:j < r.Bibs.length) (e:gd r.Bibs i=gd r.Bibs j):i=j:=by
 have pw:=nB.1 (nH.1 G.one)
 rw [wBS hi,wBS hj] at e
 rcases Nat.lt_trichotomy i j with c | c | c
 ·exact absurd e (pw i j hi hj c)
 ·exact c
 ·exact absurd e.symm (pw j i hj hi c)
theorem wHv {τ τ':Nat->Option Int} {t u:Int} {z:Nat->Prop} (h1:∀ i,z i->τ' i=some t/\τ i=none) (h2:∀ i,¬ z i->τ' i=τ i) (hu:u <= t) (i:Nat):nbf τ' i u ↔ nbf τ i u:=by
 by_cases c:z i
 ·obtain ⟨a,b⟩:=h1 i c
  unfold nbf
  constructor
  ·intro _ s hs;rw [b] at hs;cases hs
  ·intro _ s hs;rw [a] at hs;cases hs;exact hu
 ·unfold nbf;rw [h2 i c]
theorem wEM {r:wAE} {τ τ':Nat->Option Int} {t u:Int} {z:Nat->Prop} (h1:∀ i,z i->τ' i=some t/\τ i=none) (h2:∀ i,¬ z i->τ' i=τ i) (hu:u <= t) (i j:Nat):lap r τ' i u j ↔ lap r τ i u j:=by
 unfold lap
 rw [wHv h1 h2 hu]
theorem rA_is {r:wAE} (G:wJH r) {τ:Nat->Option Int} {p:wAC} (hp:wHB p) (hr:p.Race=r) {t:Int} {z:List Int} (hz:∀ x ∈ z,∃ i:Nat,x=i/\i < r.Bibs.length/\(∃ j,Lp p (gd p.done i) t j))
  (hL:∀ i j,i < r.Bibs.length->gd p.out i=false->(Lp p (gd p.done i) t j ↔ lap r τ i t j)) (ho:∀ x ∈ z,∀ i:Nat,x=i->gd p.out i=false) (hd:∀ i,i < r.Bibs.length->gd p.out i=false->gd p.done i=cn (gd r.Times i) t)
  (hzl:z.length <= 60) {a:List wAD} (ha:a.length <= 100000):∃ e,wBp 0 (↑z.length:Int) (rA p z t) a=some (a ++ e)/\e.length=z.length/\∀ q,q < z.length->(gd e q).Bib=gd r.Bibs (gd z q).toNat/\(gd e q).Time=t/\(gd e q).Done=cn (gd r.Times (gd z q).toNat) t/\∃ j,(gd e q).By=gd r.Bibs j/\lap r τ (gd z q).toNat t j/\∀ k,lap r τ (gd z q).toNat t k->gd r.Bibs j <= gd r.Bibs k:=by
 have hb:=hp.b
 obtain ⟨s,e,es,h1,h2,h3⟩:=wCC (body:=rA p z t) (n:=z.length) (s0:=a) (fun k s=>∃ e,s=a ++ e/\e.length=k/\∀ q,q < k->(gd e q).Bib=gd r.Bibs (gd z q).toNat/\(gd e q).Time=t/\(gd e q).Done=cn (gd r.Times (gd z q).toNat) t/\∃ j,(gd e q).By=gd r.Bibs j/\lap r τ (gd z q).toNat t j/\∀ k,lap r τ (gd z q).toNat t k->gd r.Bibs j <= gd r.Bibs k) (by omega) ⟨[],by simp,rfl,fun q hq=>by omega⟩ (fun k s hk ⟨e,hs,h2,h3⟩=>by
  obtain ⟨i,hi,hi2,j0,hj0⟩:=hz _ (wAS hk)
  have hout:=ho _ (wAS hk) i hi
  have hpd:=hp.d0 i (by rw [<- hb,hr];exact hi2)
  have hll:=hp.len _ (wAS (l:=p.Race.Times) (k:=i) (by have:=hp.t;rw [this,<- hb,hr];exact hi2))
  have hdn:=hd i hi2 hout
  rw [hr] at hb
  unfold rA
  rw [wCb (by omega) (by omega),nA,hi,hr,wAh hi2,nA,wCb (by omega) (by omega),nA,nG]
  obtain ⟨x,ex,hx⟩:=wPQ hp (i:Int) (gd p.done i) t hpd.1 (by omega)
  rw [ex,nA]
  rcases hx with ⟨_,h5⟩ | ⟨j,h4,h5,h6,h7⟩
  ·exact absurd hj0 (h5 j0 hj0.1)
  ·subst h4
   have hj:j < r.Bibs.length:=by rw [hb];exact h5
   rw [wAh hj,nA,wEX (by rw [hs];simp;omega),nA]
   refine ⟨_,rfl,e ++ [⟨gd r.Bibs i,gd p.done i,t,gd r.Bibs j⟩],by rw [hs,List.append_assoc],by simp [h2],fun q hq=>?_⟩
   by_cases c:q=k
   ·subst c
    have eg:gd (e ++ [(⟨gd r.Bibs i,gd p.done i,t,gd r.Bibs j⟩:wAD)]) q=⟨gd r.Bibs i,gd p.done i,t,gd r.Bibs j⟩:=by rw [<- h2,wMF]
    rw [eg,hi,nG]
    refine ⟨rfl,rfl,hdn,j,rfl,(hL i j hi2 hout).1 h6,fun k hk=>?_⟩
    have hk2:=(hL i k hi2 hout).2 hk
    rw [hr] at h7
    exact h7 k hk2.1 hk2
   ·rw [wME (by omega)]
    exact h3 q (by omega))
 exact ⟨es,by rw [e,h1],h2,h3⟩
theorem rO_is {z:List Int} {n:Nat} (hz:∀ x ∈ z,0 <= x/\x < n) (hzl:z.length <= 60) {o:List Bool} (ho:o.length=n):∃ o',wBp 0 (↑z.length:Int) (rO z) o=some o'/\o'.length=n/\∀ i:Nat,i < n->gd o' i=if (i:Int) ∈ z then true else gd o i:=by
 obtain ⟨o',e,h1,h2⟩:=wCC (body:=rO z) (n:=z.length) (s0:=o) (fun k o'=>o'.length=n/\∀ i:Nat,i < n->gd o' i=if (i:Int) ∈ z.take k then true else gd o i) (by omega) ⟨ho,fun i _=>by simp⟩ (fun k s hk ⟨h1,h2⟩=>by
  have hr:=hz _ (wAS hk)
  unfold rO
  rw [wCb (by omega) (by omega),nA,wCb (by omega) (by omega),nA]
  refine ⟨_,rfl,by simpa using h1,fun i hi=>?_⟩
  rw [wMm (by omega) (by omega),h2 i hi,wFV hk]
  by_cases c:i=(gd z k).toNat
  ·rw [if_pos c,if_pos (by rw [nJ,nE];right;omega)]
  ·rw [if_neg c]
   have:((i:Int) ∈ z.take k ++ [gd z k]) ↔ (i:Int) ∈ z.take k:=by
    rw [nJ,nE]
    exact ⟨fun h=>h.elim id fun h=>absurd h (by omega),.inl⟩
   simp only [this])
 exact ⟨o',e,h1,fun i hi=>by rw [h2 i hi,nL]⟩
end Go.Proofs.YtbpllbhagaoocaaGreat
namespace Go.Proofs.YtbpllbhagaoocaaGreat
open Go.KL
structure Times (r:wAE) (L:List Int):Prop where
 inc:L.Pairwise (· < ·)
 all:∀ x,x ∈ L ↔ ∃ l ∈ r.Times,x ∈ l
 len:L.length <= 1200
theorem wOB {L:List Int} (hL:L.Pairwise (· < ·)) (h0:∀ x ∈ L,0 <= x) {k:Nat} (hk:k < L.length):wEL L k < gd L k/\(∀ x ∈ L.take k,x <= wEL L k/\x < gd L k)/\∀ x ∈ L,wEL L k < x->gd L k <= x:=by
 have mono:∀ i j,i < j->j < L.length->gd L i < gd L j:=fun i j hij hj=>by
  have:=nB.1 hL i j (by omega) hj hij
  rwa [<- wBS (by omega),<- wBS hj] at this
 have le:∀ i j,i <= j->j < L.length->gd L i <= gd L j:=fun i j hij hj=>by
  by_cases e:i=j
  ·subst e;exact nK _
  ·exact na (mono i j (by omega) hj)
 unfold wEL
 refine ⟨?_,fun x hx=>?_,fun x hx hlt=>?_⟩
 ·split
  ·have:=h0 _ (wAS hk);omega
  ·exact mono _ _ (by omega) hk
 ·obtain ⟨i,hi,e⟩:=nD hx
  rw [List.length_take] at hi
  rw [List.getElem_take,<- wBS (by omega)] at e
  subst e
  rw [if_neg (by omega)]
  exact ⟨le _ _ (by omega) (by omega),mono _ _ (by omega) hk⟩
 ·obtain ⟨i,hi,e⟩:=nD hx
  rw [<- wBS hi] at e
  subst e
  rcases nt i k with c | c
  ·exfalso
   rw [if_neg (by omega)] at hlt
   have:=le i (k - 1) (by omega) (by omega)
   omega
  ·exact le _ _ c hi
theorem wMG {r:wAE} (G:wJH r) {L:List Int} (hT:Times r L) {k:Nat} (hk:k < L.length) {s:RS} (I:RInv r L k s):∃ s',rB s (gd L k)=some (.inl s')/\RInv r L (k + 1) s':=by
 obtain ⟨A,laps,bibs,times,done,out⟩:=s
 obtain ⟨e1,e2,e3,dl,ol,al,τ,to,td,tx,te⟩:=I
 simp only at e1 e2 e3 dl ol al to td te
 subst e1 e2 e3
 have hn:=G.n
 have hrt:=G.t
 have hpos:∀ x ∈ L,0 <= x:=fun x hx=>by
  obtain ⟨l,hl,hx⟩:=(hT.all x).1 hx
  exact (G.pos l hl x hx).1
 obtain ⟨lt1,lt2,lt3⟩:=wOB hT.inc hpos hk
 have hkl:=hT.len
 generalize ht:gd L k=t at lt1 lt2 lt3 ⊢
 have tin:∀ i,i < r.Bibs.length->gd r.Times i ∈ r.Times:=fun i hi=>wAS (by omega)
 let p:wAC:=⟨r,done,out⟩
 have Gp:wHB p:=⟨by show done.length <= 60;omega,by show out.length=done.length;omega,by show r.Bibs.length=done.length;omega,by show r.Times.length=done.length;omega,fun i hi=>by
  have hi':i < r.Bibs.length:=by rw [<- dl];exact hi
  show 0 <= gd done i/\gd done i <= ((gd r.Times i).length:Int)
  rw [td i hi']
  have:=wEb (gd r.Times i) ((τ i).getD (wEL L k))
  omega,fun l hl=>by have:=G.len l hl;omega⟩
 obtain ⟨z,y,ez,yl,yn,Gy,zp,zi⟩:=wOA Gp t
 have yl':y.length=r.Bibs.length:=by rw [yl];exact dl
 have outN:∀ i,i < r.Bibs.length->(gd out i=false ↔ τ i=none):=fun i hi=>by
  rw [to i hi]
  cases τ i <;> simp
 have yv:∀ i,i < r.Bibs.length->gd y i=cn (gd r.Times i) ((τ i).getD t):=fun i hi=>by
  have h1:=yn i (by rw [dl];exact hi)
  rw [h1]
  unfold nx
  show (if gd out i=false/\gd done i < ((gd r.Times i).length:Int)/\gd (gd r.Times i) (gd done i).toNat=t then gd done i + 1 else gd done i)=_
  cases hτ:τ i with
  | some s =>
   have ho:gd out i=true:=by rw [to i hi,hτ];rfl
   rw [if_neg (fun h=>by rw [ho] at h;exact nQ h.1),td i hi,hτ]
   rfl
  | none =>
   have ho:gd out i=false:=(outN i hi).2 hτ
   have hd:=td i hi
   rw [hτ] at hd
   simp only [nb] at hd ⊢
   rw [wNz (G.inc _ (tin i hi)) lt1 (fun x hx hlt=>lt3 x ((hT.all x).2 ⟨_,tin i hi,hx⟩) hlt),hd]
   by_cases c:cn (gd r.Times i) (wEL L k) < (gd r.Times i).length/\gd (gd r.Times i) (cn (gd r.Times i) (wEL L k))=t
   ·rw [if_pos c,if_pos ⟨ho,by omega,by rw [nG];exact c.2⟩]
    omega
   ·rw [if_neg c,if_neg (fun h=>c ⟨by omega,by have:=h.2.2;rwa [nG] at this⟩)]
 have nbN:∀ j,j < r.Bibs.length->(nbf τ j t ↔ τ j=none):=fun j hj=>by
  constructor
  ·intro h
   cases hτ:τ j with
   | none=>rfl
   | some s =>
    have h1:=h s hτ
    have h2:=lt2 s (tx.in_ j s hj hτ)
    omega
  ·intro h s hs;rw [h] at hs;cases hs
 have lapN:∀ i j,i < r.Bibs.length->gd out i=false->(Lp (⟨r,y,out⟩:wAC) (gd y i) t j ↔ lap r τ i t j):=fun i j hi ho=>by
  have yi:gd y i=cn (gd r.Times i) t:=by rw [yv i hi,(outN i hi).1 ho];rfl
  unfold Lp lap
  show (j < y.length/\gd out j=false/\gd y i + 2 <= gd y j/\gd (gd r.Times j) (gd y j - 1).toNat=t) ↔ _
  rw [yl']
  constructor
  ·rintro ⟨hj,h1,h2,h3⟩
   have hτ:=(outN j hj).1 h1
   have yj:gd y j=cn (gd r.Times j) t:=by rw [yv j hj,hτ];rfl
   rw [yi,yj] at h2
   rw [yj] at h3
   have hle:=wEb (gd r.Times j) t
   refine ⟨hj,(nbN j hj).2 hτ,?_,by omega⟩
   have hm:=wAS (l:=gd r.Times j) (k:=((cn (gd r.Times j) t:Nat) - 1:Int).toNat) (by omega)
   rwa [h3] at hm
  ·rintro ⟨hj,h1,h2,h3⟩
   have hτ:=(nbN j hj).1 h1
   have yj:gd y j=cn (gd r.Times j) t:=by rw [yv j hj,hτ];rfl
   obtain ⟨c1,c2,c3⟩:=wMn (G.inc _ (tin j hj)) h2
   refine ⟨hj,(outN j hj).2 hτ,by rw [yi,yj];omega,?_⟩
   rw [yj,show (((cn (gd r.Times j) t:Nat):Int) - 1).toNat=cn (gd r.Times j) t - 1 by omega]
   exact c3
 have zin:∀ x,x ∈ z ↔ ∃ i:Nat,x=i/\i < r.Bibs.length/\τ i=none/\∃ j,lap r τ i t j:=fun x=>by
  rw [zi]
  constructor
  ·rintro ⟨i,h1,h2,h3,j,h4⟩
   have hi:i < r.Bibs.length:=by rw [<- dl];exact h2
   exact ⟨i,h1,hi,(outN i hi).1 h3,j,(lapN i j hi h3).1 h4⟩
  ·rintro ⟨i,h1,hi,h3,j,h4⟩
   exact ⟨i,h1,by rw [<- dl] at hi;exact hi,(outN i hi).2 h3,j,(lapN i j hi ((outN i hi).2 h3)).2 h4⟩
 have zl:z.length <= 60:=by
  have key:∀ m,m < z.length->(m:Int) <= gd z m:=by
   intro m
   induction m with
   | zero =>
    intro hm
    obtain ⟨i,h1,_⟩:=(zin _).1 (wAS hm)
    omega
   | succ m ih =>
    intro hm
    have h3:=ih (by omega)
    have h4:=nB.1 zp m (m + 1) (by omega) hm (by omega)
    rw [<- wBS (by omega),<- wBS hm] at h4
    omega
  rcases nt 60 z.length with c | c
  ·have h5:=key 60 c
   obtain ⟨i,h1,h2,_⟩:=(zin _).1 (wAS c)
   omega
  ·exact c
 obtain ⟨E,eE,El,Ee⟩:=rA_is (τ:=τ) G (p:=⟨r,y,out⟩) Gy rfl (t:=t) (z:=z) (fun x hx=>by
   obtain ⟨i,h1,h2,h3,j,h4⟩:=(zin x).1 hx
   exact ⟨i,h1,h2,j,(lapN i j h2 ((outN i h2).2 h3)).2 h4⟩) lapN (fun x hx i hi=>by
   obtain ⟨i',h1,h2,h3,_⟩:=(zin x).1 hx
   have:i=i':=by omega
   subst this
   exact (outN i h2).2 h3) (fun i hi ho=>by
   show gd y i=_
   rw [yv i hi,(outN i hi).1 ho];rfl) zl (a:=A) (by omega)
 obtain ⟨o',eo,ol',oi⟩:=rO_is (n:=r.Bibs.length) (z:=z) (fun x hx=>by
  obtain ⟨i,h1,h2,_⟩:=(zin x).1 hx
  omega) zl (o:=out) ol
 have er:rB (A,r.Laps,r.Bibs,r.Times,done,out) t=some (.inl (A ++ E,r.Laps,r.Bibs,r.Times,y,o')):=by
  unfold rB
  simp only
  rw [show wAf (⟨(⟨r.Laps,r.Bibs,r.Times⟩:wAE),done,out⟩:wAC) t=some (z,(⟨r,y,out⟩:wAC)) from ez,nA]
  simp only
  rw [eE,nA,eo,nA]
 obtain ⟨τ',hτ1,hτ2⟩:∃ τ':Nat->Option Int,(∀ i:Nat,(i:Int) ∈ z->τ' i=some t)/\∀ i:Nat,¬ (i:Int) ∈ z->τ' i=τ i:=⟨fun i=>if (i:Int) ∈ z then some t else τ i,fun i hi=>if_pos hi,fun i hi=>if_neg hi⟩
 refine ⟨_,er,rfl,rfl,rfl,yl',ol',by simp only [nW];omega,τ',fun i hi=>?_,fun i hi=>?_,?_,?_⟩
 ·simp only
  rw [oi i hi]
  by_cases c:(i:Int) ∈ z
  ·rw [if_pos c,hτ1 i c];rfl
  ·rw [if_neg c,hτ2 i c];exact to i hi
 ·simp only
  rw [yv i hi]
  have hl:wEL L (k + 1)=t:=by unfold wEL;rw [if_neg (by omega)];exact ht
  rw [hl]
  by_cases c:(i:Int) ∈ z
  ·rw [hτ1 i c]
   obtain ⟨i',h1,h2,h3,_⟩:=(zin _).1 c
   have:i=i':=by omega
   subst this
   rw [h3];rfl
  ·rw [hτ2 i c]
 ·
  have h1:∀ i:Nat,(i:Int) ∈ z->τ' i=some t/\τ i=none:=fun i hi=>by
   obtain ⟨i',h1,_,h3,_⟩:=(zin _).1 hi
   have:i=i':=by omega
   subst this
   exact ⟨hτ1 i hi,h3⟩
  have h2:∀ i:Nat,¬ (i:Int) ∈ z->τ' i=τ i:=hτ2
  have tk:∀ u,u ∈ L.take (k + 1) ↔ u ∈ L.take k \/ u=t:=fun u=>by rw [wFV hk,nJ,nE,ht]
  refine ⟨fun i u hi hu=>?_,fun i hi u hu hnb=>?_⟩
  ·rw [tk]
   by_cases c:(i:Int) ∈ z
   ·have:=(h1 i c).1
    rw [this] at hu
    right
    exact (nS hu).symm
   ·rw [h2 i c] at hu
    exact .inl (tx.in_ i u hi hu)
  ·rcases (tk u).1 hu with hu | hu
   ·have hut:=(lt2 u hu).2
    rw [wHv (z:=fun i:Nat=>(i:Int) ∈ z) h1 h2 (na hut)] at hnb
    have:=tx.iff i hi u hu hnb
    simp only [wEM (r:=r) (z:=fun i:Nat=>(i:Int) ∈ z) h1 h2 (na hut)]
    rw [<- this]
    by_cases c:(i:Int) ∈ z
    ·rw [(h1 i c).1,(h1 i c).2]
     exact ⟨fun h=>by have:=nS h;omega,fun h=>by cases h⟩
    ·rw [h2 i c]
   ·subst hu
    rw [wHv (z:=fun i:Nat=>(i:Int) ∈ z) h1 h2 (nK _),nbN i hi] at hnb
    simp only [wEM (r:=r) (z:=fun i:Nat=>(i:Int) ∈ z) h1 h2 (nK _)]
    constructor
    ·intro h
     by_cases c:(i:Int) ∈ z
     ·obtain ⟨i',g1,_,_,g4⟩:=(zin _).1 c
      have:i=i':=by omega
      subst this
      exact g4
     ·rw [h2 i c,hnb] at h;cases h
    ·intro h
     exact (h1 i ((zin _).2 ⟨i,rfl,hi,hnb,h⟩)).1
 ·have h1:∀ i:Nat,(i:Int) ∈ z->τ' i=some t/\τ i=none:=fun i hi=>by
   obtain ⟨i',h1,_,h3,_⟩:=(zin _).1 hi
   have:i=i':=by omega
   subst this
   exact ⟨hτ1 i hi,h3⟩
  have h2:∀ i:Nat,¬ (i:Int) ∈ z->τ' i=τ i:=hτ2
  have hA:∀ o ∈ A,∃ i,i < r.Bibs.length/\Ent r τ i o/\¬ (i:Int) ∈ z/\o.Time <= t:=fun o ho=>by
   obtain ⟨i,hi,hE⟩:=te.of o ho
   refine ⟨i,hi,hE,fun c=>?_,na (lt2 _ (tx.in_ i _ hi hE.time)).2⟩
   have:=(h1 i c).2
   rw [hE.time] at this
   cases this
  have hE:∀ q,q < z.length->∃ i:Nat,gd z q=i/\i < r.Bibs.length/\τ i=none/\(i:Int) ∈ z:=fun q hq=>by
   obtain ⟨i,g1,g2,g3,_⟩:=(zin _).1 (wAS hq)
   exact ⟨i,g1,g2,g3,g1 ▸ wAS hq⟩
  refine ⟨fun o ho=>?_,fun i hi hτ=>?_,?_⟩
  ·rcases nJ.1 ho with ho | ho
   ·obtain ⟨i,hi,he,hz,hot⟩:=hA o ho
    obtain ⟨j,j1,j2,j3⟩:=he.by_
    refine ⟨i,hi,he.bib,by rw [h2 i hz];exact he.time,he.done,j,j1,(wEM (z:=fun i:Nat=>(i:Int) ∈ z) h1 h2 hot i j).2 j2,fun q hq=>j3 q ((wEM (z:=fun i:Nat=>(i:Int) ∈ z) h1 h2 hot i q).1 hq)⟩
   ·obtain ⟨q,hq,eq⟩:=nD ho
    rw [<- wBS hq] at eq
    subst eq
    obtain ⟨i,g1,g2,_,g4⟩:=hE q (by omega)
    obtain ⟨b1,b2,b3,j,j1,j2,j3⟩:=Ee q (by omega)
    rw [g1,nG] at b1 b3 j2
    refine ⟨i,g2,b1,by rw [b2];exact (h1 i g4).1,by rw [b2];exact b3,j,j1,by rw [b2];exact (wEM (z:=fun i:Nat=>(i:Int) ∈ z) h1 h2 (nK _) i j).2 j2,fun q' hq'=>?_⟩
    rw [b2] at hq'
    have:=j3 q' (by rw [g1,nG];exact (wEM (z:=fun i:Nat=>(i:Int) ∈ z) h1 h2 (nK _) i q').1 hq')
    exact this
  ·by_cases c:(i:Int) ∈ z
   ·obtain ⟨q,hq,eq⟩:=nD c
    rw [<- wBS hq] at eq
    refine ⟨gd E q,List.mem_append_right _ (wAS (by omega)),?_⟩
    rw [(Ee q hq).1,eq,nG]
   ·rw [hτ2 i c] at hτ
    obtain ⟨o,ho,e⟩:=te.all i hi hτ
    exact ⟨o,List.mem_append_left _ ho,e⟩
  ·rw [nR,nu]
   refine ⟨te.one,?_,fun a ha b hb e=>?_⟩
   ·rw [nH,nB]
    intro a b ha hb hab e
    rw [List.length_map] at ha hb
    rw [nI,nI,<- wBS ha,<- wBS hb,(Ee a (by omega)).1,(Ee b (by omega)).1] at e
    obtain ⟨i,g1,g2,_⟩:=hE a (by omega)
    obtain ⟨j,g3,g4,_⟩:=hE b (by omega)
    rw [g1,g3,nG,nG] at e
    have:=wDP G g2 g4 e
    have h4:=nB.1 zp a b (by omega) (by omega) hab
    rw [<- wBS (by omega),<- wBS (by omega)] at h4
    omega
   ·obtain ⟨o,ho,e1⟩:=nc.1 ha
    obtain ⟨i,hi,he,hz,_⟩:=hA o ho
    obtain ⟨o2,ho2,e2⟩:=nc.1 hb
    obtain ⟨q,hq,eq⟩:=nD ho2
    rw [<- wBS hq] at eq
    subst eq
    obtain ⟨j,g3,g4,_,g5⟩:=hE q (by omega)
    rw [(Ee q (by omega)).1,g3,nG] at e2
    have:=wDP G hi g4 (by rw [<- he.bib,e1,e,e2])
    subst this
    exact hz g5
end Go.Proofs.YtbpllbhagaoocaaGreat
namespace Go.Proofs.YtbpllbhagaoocaaGreat
open Go.KL
theorem wFb {zs:List Int} (h:zs.Pairwise (· <= ·)):(Go.Lib.compact zs).Pairwise (· < ·)/\(∀ x,x ∈ Go.Lib.compact zs ↔ x ∈ zs)/\(Go.Lib.compact zs).length <= zs.length:=by
 have hg:∀ i,i < zs.length->(zs.toArray[i]!)=gd zs i:=fun i hi=>by
  rw [getElem!_pos zs.toArray i (by simpa using hi),wBS hi];simp
 have le:∀ i j,i <= j->j < zs.length->gd zs i <= gd zs j:=fun i j hij hj=>by
  by_cases e:i=j
  ·subst e;exact nK _
  ·have:=nB.1 h i j (by omega) hj (by omega)
   rwa [<- wBS (by omega),<- wBS hj] at this
 have key:∀ m,m <= zs.length->(Go.Lib.compactUpTo zs.toArray m).Pairwise (· < ·)/\(∀ x,x ∈ Go.Lib.compactUpTo zs.toArray m ↔ ∃ j,j < m/\gd zs j=x)/\(Go.Lib.compactUpTo zs.toArray m).length <= m:=by
  intro m
  induction m with
  | zero=>intro _;exact ⟨by simp [Go.Lib.compactUpTo],fun x=>by simp [Go.Lib.compactUpTo],by simp [Go.Lib.compactUpTo]⟩
  | succ m ih =>
   intro hm
   obtain ⟨h1,h2,h3⟩:=ih (by omega)
   rw [Go.Lib.compactUpTo_succ]
   by_cases c:Go.Lib.keeps zs.toArray m=true
   ·rw [if_pos c,hg m (by omega)]
    refine ⟨?_,fun x=>?_,by simp;omega⟩
    ·rw [nO]
     refine ⟨h1,nM _ _,fun a ha b hb=>?_⟩
     obtain ⟨j,hj,e⟩:=(h2 a).1 ha
     have hb':=nE.1 hb
     unfold Go.Lib.keeps at c
     simp only [decide_eq_true_iff] at c
     rcases c with c | c
     ·omega
     ·rw [hg m (by omega),hg (m - 1) (by omega)] at c
      have l1:=le j (m - 1) (by omega) (by omega)
      have l2:=le (m - 1) m (by omega) (by omega)
      omega
    ·rw [nJ,nE,h2]
     constructor
     ·rintro (⟨j,hj,e⟩ | e)
      ·exact ⟨j,by omega,e⟩
      ·exact ⟨m,by omega,e.symm⟩
     ·rintro ⟨j,hj,e⟩
      by_cases ej:j=m
      ·subst ej;exact .inr e.symm
      ·exact .inl ⟨j,by omega,e⟩
   ·rw [if_neg c,List.append_nil]
    refine ⟨h1,fun x=>?_,by omega⟩
    have m0:m ≠ 0/\gd zs m=gd zs (m - 1):=by
     unfold Go.Lib.keeps at c
     simp only [decide_eq_true_iff,not_or,ne_eq,Decidable.not_not] at c
     have:=c.2
     rw [hg m (by omega),hg (m - 1) (by omega)] at this
     exact ⟨c.1,this⟩
    rw [h2]
    constructor
    ·rintro ⟨j,hj,e⟩
     exact ⟨j,by omega,e⟩
    ·rintro ⟨j,hj,e⟩
     by_cases ej:j=m
     ·subst ej;exact ⟨j - 1,by omega,by rw [<- m0.2];exact e⟩
     ·exact ⟨j,by omega,e⟩
 obtain ⟨h1,h2,h3⟩:=key zs.length (Nat.le_refl _)
 refine ⟨h1,fun x=>?_,h3⟩
 show x ∈ Go.Lib.compactUpTo zs.toArray zs.length ↔ _
 rw [h2]
 constructor
 ·rintro ⟨j,hj,e⟩
  exact e ▸ wAS hj
 ·intro hx
  obtain ⟨j,hj,e⟩:=nD hx
  exact ⟨j,hj,by rw [wBS hj];exact e⟩
theorem wId {T:List (List Int)} (hl:∀ l ∈ T,l.length <= 20):∀ k,(T.take k).flatten.length <= 20 * k:=by
 intro k
 induction k generalizing T with
 | zero=>simp
 | succ k ih =>
  cases T with
  | nil=>simp
  | cons a T =>
   rw [List.take_succ_cons,List.flatten_cons,nW]
   have:=hl a (by simp)
   have:=ih (T:=T) fun l h=>hl l (by simp [h])
   omega
theorem wHC {T:List (List Int)} {k:Nat} (hk:k < T.length):(T.take (k + 1)).flatten=(T.take k).flatten ++ gd T k:=by
 rw [wFV hk,List.flatten_append];simp
theorem wLN {T:List (List Int)} (hn:T.length <= 60) (hl:∀ l ∈ T,l.length <= 20):wAl T=some T.flatten:=by
 unfold wAl
 have fl:=wId hl
 obtain ⟨x,ex,hx⟩:=wCC (body:=fun (k7:Nat) (x6:Int) =>
  (idx T (↑k7:Int)).bind fun x29 =>
  if (w64 (x6 + (↑x29.length:Int))) < 0 then
   none
  else
   some (w64 (x6 + (↑x29.length:Int)))) (n:=T.length) (s0:=(0:Int)) (fun k x=>x=((T.take k).flatten.length:Int)) (by omega) (by simp) (fun k x hk hx=>by
  have h1:=hl _ (wAS hk)
  have h2:=fl k
  rw [wAh hk,nA,hx,wAa (by omega) (by omega),if_neg (by omega)]
  exact ⟨_,rfl,by rw [wHC hk,nW];omega⟩)
 have h60:=fl T.length
 rw [nL] at h60 hx
 have eg:wAt [] x=some []:=by
  unfold wAt
  rw [if_neg (by omega),wAa (by omega) (by omega)]
  by_cases c:0 < x - 0
  ·rw [if_pos c,appZ,if_pos (by omega)];rfl
  ·rw [if_neg c]
 have e2:=wHA (body:=fun (k86:Nat) (l83:List Int) =>
  (idx T (↑k86:Int)).bind fun x107 =>
  (app 8 l83 x107).bind fun x122 =>
  some x122) (n:=T.length) (s0:=[]) (fun k=>(T.take k).flatten) (by simp) (by omega) (fun i hi=>by
  have h1:=hl _ (wAS hi)
  have h2:=fl i
  rw [wAh hi,nA,wEX (by omega),nA,wHC hi])
 rw [nL] at e2
 rw [ex,nA,eg,nA,e2,nA]
theorem wMH {r:wAE} (G:wJH r):∃ L,wAx r=some L/\Times r L:=by
 unfold wAx
 have hn:=G.n
 have hl:=wId G.len r.Times.length
 rw [nL] at hl
 have ht:=G.t
 rw [wLN (by omega) G.len,nA]
 have e1:wBJ r.Times.flatten=some (r.Times.flatten.mergeSort fun x y=>decide (x <= y)):=by
  unfold wBJ wLj
  exact if_pos (by omega)
 rw [e1,nA]
 have hp:=nl r.Times.flatten fun x y=>decide (x <= y)
 have so:=ni (le:=fun x y:Int=>decide (x <= y)) (fun a b c h1 h2=>by simp at h1 h2 ⊢;omega) (fun a b=>by simp;omega) r.Times.flatten
 have hlen:=hp.length_eq
 generalize r.Times.flatten.mergeSort (fun x y=>decide (x <= y))=M at hp so hlen
 obtain ⟨c1,c2,c3⟩:=wFb (zs:=M) (so.imp fun h=>by simpa using h)
 have e2:wAw M=some (Go.Lib.compact M):=by
  unfold wAw wEd
  exact if_pos (by omega)
 rw [e2,nA]
 unfold wBD
 refine ⟨_,rfl,c1,fun x=>?_,by omega⟩
 rw [c2,hp.mem_iff,List.mem_flatten]
def ltO (a b:wAD):Prop:=a.Time < b.Time \/ a.Time=b.Time/\a.Bib < b.Bib
instance (a b:wAD):Decidable (ltO a b):=by unfold ltO;exact inferInstance
theorem cmpO (a b:wAD):wAb a b=some (if a.Time < b.Time then -1 else if b.Time < a.Time then 1 else if a.Bib < b.Bib then -1 else if b.Bib < a.Bib then 1 else 0):=by
 have hc:∀ x y:Int,wBH x y=some (if x < y then -1 else if y < x then 1 else 0):=fun x y=>by
  unfold wBH wBX
  simp only [not_true_eq_false,decide_false,nA,nq,if_false]
  split
  ·rfl
  ·split <;> rfl
 have ho:∀ x y:Int,wCA [x,y]=some (if x=0 then y else x):=fun x y=>by
  unfold wCA
  rw [wCg (by simp)]
  show jn (forN _ 2 0 ()) _=_
  have i0:idx [x,y] ((0:Nat):Int)=some x:=rfl
  have i1:idx [x,y] ((0 + 1:Nat):Int)=some y:=rfl
  simp only [forN,i0,i1,nA]
  by_cases c:x=0
  ·simp only [if_pos c]
   by_cases d:y=0
   ·simp only [if_pos d,d];rfl
   ·simp only [if_neg d];rfl
  ·simp only [if_neg c];rfl
 unfold wAb
 rw [hc,nA,hc,nA,ho,nA]
 by_cases c1:a.Time < b.Time
 ·simp [c1]
 ·by_cases c2:b.Time < a.Time
  ·simp [c1,c2]
  ·simp only [c1,c2,if_false,if_true]
structure wPS (r:wAE) (D:List Int) (A:List wAD) (τ:Nat->Option Int):Prop where
 dl:D.length=r.Bibs.length
 done:∀ i,i < r.Bibs.length->(τ i=none/\gd D i=(gd r.Times i).length) \/ ∃ s,τ i=some s/\gd D i=cn (gd r.Times i) s
 ex:∀ i,i < r.Bibs.length->∀ j,j < r.Bibs.length->∀ t ∈ gd r.Times j,nbf τ i t->(τ i=some t ↔ ∃ k,lap r τ i t k)
 in_:∀ i s,i < r.Bibs.length->τ i=some s->∃ l ∈ r.Times,s ∈ l
 ents:Ents r τ A
 ord:A.Pairwise ltO
 al:A.length <= 100000
theorem wMo {r:wAE} (G:wJH r):∃ p A τ,wBY r=some (p,A)/\wPS r p.done A τ:=by
 rw [wJG]
 have hn:=G.n
 have ht:=G.t
 rw [mkz,if_pos (by omega),nA,mkz,if_pos (by omega),nA,nA]
 simp only
 obtain ⟨L,eL,hT⟩:=wMH G
 rw [eL,nA]
 have hpos:∀ x ∈ L,0 <= x:=fun x hx=>by
  obtain ⟨l,hl,hx⟩:=(hT.all x).1 hx
  exact (G.pos l hl x hx).1
 have hll:=hT.len
 obtain ⟨⟨A,laps,bibs,times,done,out⟩,e,I⟩:=wLM (f:=rB) (L:=L) (s0:=([],r.Laps,r.Bibs,r.Times,nU (r.Bibs.length:Int).toNat 0,nU (r.Bibs.length:Int).toNat false)) (RInv r L) (by omega) ⟨rfl,rfl,rfl,by simp,by simp,by simp,fun _=>none,fun i hi=>by rw [wBS (by simpa using hi)];simp,fun i hi=>by
   rw [wBS (by simpa using hi)]
   have:cn (gd r.Times i) (-1)=0:=nT.2 fun x hx=>by
    have:=(G.pos _ (wAS (l:=r.Times) (k:=i) (by omega)) x hx).1
    simp;omega
   simp only [nb,wEL,if_true,this,List.getElem_replicate]
   rfl,⟨(fun i s _ h=>by cases h),(fun i _ t ht=>by rw [List.take_zero] at ht;cases ht)⟩,⟨(fun o ho=>by cases ho),(fun i _ h=>absurd rfl h),by simp⟩⟩ (fun k s hk I=>wMG G hT hk I)
 rw [e,nA]
 obtain ⟨e1,e2,e3,dl,ol,al,τ,to,td,tx,te⟩:=I
 simp only at e1 e2 e3 dl ol al to td te
 rw [nL] at tx
 simp only
 have lt:∀ a b:wAD,ltB (fun x:wAD × wAD=>wAb x.1 x.2) a b=decide (ltO a b):=fun a b=>by
  unfold ltB ltO
  simp only [cmpO]
  by_cases c1:a.Time < b.Time
  ·simp [c1]
  ·by_cases c2:b.Time < a.Time
   ·simp [c1,c2];omega
   ·have c3:a.Time=b.Time:=by omega
    by_cases c4:a.Bib < b.Bib
    ·simp [c3,c4]
    ·by_cases c5:b.Bib < a.Bib <;> simp [c3,c4,c5]
 have one:∀ x ∈ A,∀ y ∈ A,x.Bib=y.Bib->x=y:=fun x hx y hy e=>by
  obtain ⟨i,hi,ei⟩:=nD hx
  obtain ⟨j,hj,ej⟩:=nD hy
  have pw:=nB.1 (nH.1 te.one)
  rcases Nat.lt_trichotomy i j with c | c | c
  ·have:=pw i j (by simpa using hi) (by simpa using hj) c
   rw [nI,nI,ei,ej] at this
   exact absurd e this
  ·subst c;rw [<- ei,<- ej]
  ·have:=pw j i (by simpa using hj) (by simpa using hi) c
   rw [nI,nI,ei,ej] at this
   exact absurd e.symm this
 have C:Cmp (fun x:wAD × wAD=>wAb x.1 x.2) A:=by
  refine ⟨by omega,fun x _ y _=>by show (wAb x y).isSome=true;rw [cmpO];rfl,fun x _=>by rw [lt];simp [ltO],fun x _ y _ w _ a b=>?_,fun x _ y _ w _ a b=>?_,fun x hx y hy a b=>?_⟩
  ·rw [lt] at a b ⊢
   simp only [decide_eq_true_iff] at a b ⊢
   simp only [ltO] at a b ⊢
   omega
  ·rw [lt] at a b ⊢
   simp only [decide_eq_false_iff_not] at a b ⊢
   simp only [ltO] at a b ⊢
   omega
  ·rw [lt] at a b
   simp only [decide_eq_false_iff_not] at a b
   simp only [ltO] at a b
   exact one x hx y hy (by omega)
 unfold wAU
 rw [wLk C,nA]
 have hp:=nl A fun x y=>!ltB (fun x:wAD × wAD=>wAb x.1 x.2) y x
 have so:=ni (le:=fun x y:wAD=>!ltB (fun x:wAD × wAD=>wAb x.1 x.2) y x) (fun a b c h1 h2=>by
   rw [lt] at h1 h2 ⊢
   simp only [nZ,decide_eq_false_iff_not] at h1 h2 ⊢
   simp only [ltO] at h1 h2 ⊢
   omega) (fun a b=>by
   rw [lt,lt]
   simp only [Bool.or_eq_true,nZ,decide_eq_false_iff_not]
   simp only [ltO]
   omega) A
 generalize A.mergeSort (fun x y=>!ltB (fun x:wAD × wAD=>wAb x.1 x.2) y x)=A' at hp so
 refine ⟨_,A',τ,rfl,dl,fun i hi=>?_,fun i hi j hj t htj=>tx.iff i hi t ((hT.all t).2 ⟨_,wAS (by omega),htj⟩),fun i s hi hs=>(hT.all s).1 (tx.in_ i s hi hs),⟨fun o ho=>te.of o (hp.mem_iff.1 ho),fun i hi h=>?_,(hp.map _).nodup_iff.2 te.one⟩,?_,by have:=hp.length_eq;omega⟩
 ·have hd:=td i hi
  cases hτ:τ i with
  | some s =>
   right
   refine ⟨s,rfl,?_⟩
   rw [hd,hτ];rfl
  | none =>
   left
   refine ⟨rfl,?_⟩
   show gd done i=_
   rw [hd,hτ]
   have:cn (gd r.Times i) (wEL L L.length)=(gd r.Times i).length:=by
    refine List.countP_eq_length.2 fun x hx=>?_
    have hxl:x ∈ L:=(hT.all x).2 ⟨_,wAS (by omega),hx⟩
    obtain ⟨q,hq,eq⟩:=nD hxl
    rw [<- wBS hq] at eq
    unfold wEL
    rw [if_neg (by omega),<- eq]
    by_cases c:q=L.length - 1
    ·subst c;simp
    ·have:=nB.1 hT.inc q (L.length - 1) hq (by omega) (by omega)
     rw [<- wBS hq,<- wBS (by omega)] at this
     simp;omega
   rw [nb,this]
 ·obtain ⟨o,ho,e⟩:=te.all i hi h
  exact ⟨o,hp.mem_iff.2 ho,e⟩
 ·have nd:=(hp.map (·.Bib)).nodup_iff.2 te.one
  refine (so.and (nv.1 (nH.1 nd))).imp fun {a b} h=>?_
  obtain ⟨h1,h2⟩:=h
  rw [lt] at h1
  simp only [nZ,decide_eq_false_iff_not] at h1 ⊢
  simp only [ltO] at h1 ⊢
  omega
end Go.Proofs.YtbpllbhagaoocaaGreat
namespace Go.Proofs.YtbpllbhagaoocaaGreat
open Go.KL
theorem wGW {K V:Type} [DecidableEq K] {m:List (K × V)} {x y:K} {v:V}:wED (mput m x v) y=if y=x then some v else wED m y:=by
 induction m with
 | nil=>simp only [mput,wED]
 | cons p m ih =>
  obtain ⟨a,u⟩:=p
  rw [mput]
  by_cases h:x=a
  ·subst h
   rw [if_pos rfl,wED,wED]
   split <;> rfl
  ·rw [if_neg h,wED,wED,ih]
   by_cases h2:y=a
   ·rw [if_pos h2,if_neg (fun e:y=x=>h (e.symm.trans h2)),if_pos h2]
   ·rw [if_neg h2,if_neg h2]
theorem wMI {l:List Int} (hl:l.length <= 1000) (hd:l.Nodup):wBo l=some false:=by
 unfold wBo
 rw [wCg (by omega)]
 have key:∀ (m k:Nat) (t:List (Int × Bool)),k + m=l.length->(∀ n,wBj t n false=decide (n ∈ l.take k)) ->
   jn (forN (fun k20 l17 =>
  (idx l (↑k20:Int)).bind fun x41 =>
  if (wBj l17 x41 false)=true then
   esc (some true)
  else
   some (.inl (mput l17 x41 true))) m k t) (fun _=>some false)=some false:=by
  intro m
  induction m with
  | zero=>intro k t _ _;rfl
  | succ m ih =>
   intro k t hk ht
   have hlt:k < l.length:=by omega
   have c:gd l k ∉ l.take k:=fun c=>by
    rw [<- List.take_append_drop k l,wNv hlt] at hd
    exact (nu.1 hd).2.2 _ c _ (by simp) rfl
   rw [forN,wAh hlt,nA,ht,if_neg (by simpa using c)]
   simp only
   refine ih (k + 1) _ (by omega) fun n=>?_
   unfold wBj at ht ⊢
   rw [wGW,wFV hlt]
   by_cases e:n=gd l k
   ·rw [if_pos e];simp [e]
   ·rw [if_neg e,ht];simp [e]
 exact key l.length 0 [] (by omega) (fun n=>by simp [wBj,wED])
theorem wCq {n lo hi:Int} (h1:lo <= n) (h2:n <= hi):wBr n lo hi=some true:=by
 unfold wBr
 rw [if_pos h1]
 simp [h2]
theorem wIe {l:List (List Int)} {f:List Int->Option Bool} (hn:l.length <= 1000) (h:∀ a ∈ l,f a=some true):wBL l f=some true:=by
 unfold wBL
 rw [wCB (by omega) fun k hk=>?_]
 ·rfl
 ·rw [wAh hk,nA,h _ (wAS hk)]
  rfl
theorem wIf {l:List Int} {f:Int->Option Bool} (hn:l.length <= 1000) (h:∀ a ∈ l,f a=some true):wAv l f=some true:=by
 unfold wAv
 rw [wCB (by omega) fun k hk=>?_]
 ·rfl
 ·rw [wAh hk,nA,h _ (wAS hk)]
  rfl
structure wFc (r:wAE):Prop where
 g:wJH r
 laps:1 <= r.Laps/\r.Laps <= 20
 le:∀ l ∈ r.Times,(l.length:Int) <= r.Laps
 bib:∀ b ∈ r.Bibs,1 <= b/\b <= 999
theorem wLO {r:wAE} (G:wFc r):wBG r=some 0:=by
  unfold wBG
  have h1:=G.laps;have h2:=G.g.n;have h3:=G.g.t
  rw [wCq h1.1 h1.2,nA,if_pos rfl,if_neg (by omega),if_pos (by omega),wIe (by omega) fun X hX=>?_,nA,if_pos rfl,wIf (by omega) fun b hb=>?_,nA,if_pos rfl,wIe (by omega) fun X hX=>?_,nA,if_pos rfl,wMI (by omega) G.g.one,nA,if_neg (by decide),wCB (by omega) fun k hk=>?_]
  · rfl
  · have hXm:=wAS hk
    rw [wAh hk,nA]
    have hl:=G.g.len _ hXm
    have hpw:=G.g.inc _ hXm
    generalize gd r.Times k=X at hl hpw
    have hle:((X.length:Int) - 1).toNat <= 9223372036854775807:=by omega
    have key:wCu 1 (X.length:Int) (fun k132 (_:Unit) =>
                    (idx X (1 + ↑k132:Int)).bind fun x155 =>
                    (idx X (w64 ((1 + ↑k132:Int) - 1))).bind fun x163 =>
                    if x155 <= x163 then
                      esc (esc (some 4))
                    else
                      (some (.inl ()):Option (Unit ⊕ (Unit ⊕ Int)))) ()=some (.inl ()):=by
      unfold wCu
      rw [if_pos (by omega)]
      have:=wGV (S:=Unit) (B:=Unit ⊕ Int) (body:=fun k132 (_:Unit) =>
                    (idx X (1 + ↑k132:Int)).bind fun x155 =>
                    (idx X (w64 ((1 + ↑k132:Int) - 1))).bind fun x163 =>
                    if x155 <= x163 then
                      esc (esc (some 4))
                    else
                      some (.inl ())) (fun _=>()) ((X.length:Int) - 1).toNat 0 fun j _ hj=>by
        have e1:(1 + (j:Int))=((j + 1:Nat):Int):=by omega
        rw [wAa (by omega) (by omega),e1,show ((j + 1:Nat):Int) - 1=(j:Int) by omega,wAh (by omega),nA,wAh (by omega),nA,if_neg]
        have:=nB.1 hpw j (j + 1) (by omega) (by omega) (by omega)
        have a1:=wBW (xs:=X) (k:=j) (by omega)
        have a2:=wBW (xs:=X) (k:=j + 1) (by omega)
        rw [nf (by omega)] at a1 a2
        rw [<- nS a1,<- nS a2]
        omega
      exact this
    rw [key]
    rfl
  · have:=G.g.len X hX
    have hr:=G.g.pos X hX
    unfold wAr
    rw [wIf (by omega) fun a ha=>?_]
    · rfl
    · unfold wAk
      have:=hr a ha
      rw [wCq (by omega) (by omega)]
      rfl
  · have:=G.bib b hb
    unfold wAq
    rw [wCq this.1 this.2]
    rfl
  · have:=G.le X hX
    unfold wAp
    simp only [Option.some.injEq,decide_eq_true_eq]
    exact this
theorem wHD {r:wAE} (G:wFc r) {p:wAC} {A:List wAD} (h:wBY r=some (p,A)):wAs r=some (A,0):=by
 unfold wAs
 rw [wLO G,nA,if_pos rfl,h];rfl
theorem wJI {r:wAE} (G:wFc r) {p:wAC} {A:List wAD} (h:wBY r=some (p,A)):wBM r=some (p.done,0):=by
 unfold wBM
 rw [wLO G,nA,if_pos rfl,h];rfl
end Go.Proofs.YtbpllbhagaoocaaGreat
namespace Go.Proofs.YtbpllbhagaoocaaGreat
open Go.KL
theorem wLP {a b:Int} (h0:0 <= a) (hb:0 < b):∃ x,rem a b=some x/\0 <= x/\x < b:=by
 refine ⟨a.tmod b,if_neg (by omega),?_,?_⟩
 ·rw [nX h0];exact Int.emod_nonneg _ (by omega)
 ·rw [nX h0];exact Int.emod_lt_of_pos _ hb
theorem wHw (x:Int):0 <= wCw x:=by unfold wCw;omega
theorem wOC (x:Int):wCw x < 4294967296:=by unfold wCw;omega
theorem w64u (x:Int):w64 (wCw x)=wCw x:=by
 have:=wHw x
 have:=wOC x
 exact wAa (by omega) (by omega)
theorem wMJ (a:Int) {b:Int} (hb:b ≠ 0):∃ x,quo a b=some x:=⟨_,if_neg hb⟩
theorem wLQ (d:wAB) (n:Int) (h0:0 <= d.next) (h1:d.next <= 1000000):∃ x d',wAJ d n=some (x,d')/\0 <= d'.next/\d'.next <= d.next + 1/\0 <= x/\(x < n \/ (n <= 1/\x=0)):=by
 unfold wAJ
 by_cases hn:n <= 1
 ·exact ⟨0,d,by rw [if_pos hn],h0,by omega,by omega,.inr ⟨hn,rfl⟩⟩
 rw [if_neg hn]
 by_cases hl:(d.bytes.length:Int)=0
 ·exact ⟨0,d,by rw [if_pos hl],h0,by omega,by omega,.inl (by omega)⟩
 rw [if_neg hl]
 obtain ⟨r,e1,r0,r1⟩:=wLP h0 (show (0:Int) < d.bytes.length by omega)
 obtain ⟨b,e2⟩:∃ b,idx d.bytes r=some b:=by
  unfold idx
  rw [if_pos r0,nf (by omega)]
  exact ⟨_,rfl⟩
 obtain ⟨q,e3⟩:=wMJ d.next (b:=d.bytes.length) hl
 obtain ⟨st,e4,_,_⟩:=wLP (wHw ((wCw ((wCw ((wCw (d.state * 45)) + (wCw b))) + (wCw (77 * (wCw q))))) + 1)) (b:=65519) (by decide)
 rw [e1,nA,e2,nA,e3,nA,e4,nA,wAa (x:=d.next + 1) (by omega) (by omega)]
 have fin:∀ z:Int,∃ x d',((rem (w64 (wCw z)) n).bind fun x=>some (x,(⟨d.bytes,d.next + 1,st⟩:wAB)))=some (x,d')/\0 <= d'.next/\d'.next <= d.next + 1/\0 <= x/\(x < n \/ (n <= 1/\x=0)):=by
  intro z
  obtain ⟨x,e5,x0,x1⟩:=wLP (a:=w64 (wCw z)) (b:=n) (by rw [w64u];exact wHw z) (by omega)
  exact ⟨x,_,by rw [e5];rfl,by show 0 <= d.next + 1;omega,by show d.next + 1 <= _;omega,x0,.inl x1⟩
 by_cases c1:wCw q=0
 ·rw [if_pos c1]
  by_cases c2:n <= 256
  ·rw [if_pos c2];exact fin _
  ·rw [if_neg c2];exact fin _
 ·rw [if_neg c1];exact fin _
theorem wOD (d:wAB) (a b:Int) (h0:0 <= d.next) (h1:d.next <= 1000000) (ha:-1000000 <= a) (hab:a <= b) (hb:b <= 1000000):∃ x d',wAI d a b=some (x,d')/\0 <= d'.next/\d'.next <= d.next + 1/\a <= x/\x <= b:=by
 unfold wAI
 rw [wAa (x:=b - a) (by omega) (by omega),wAa (x:=b - a + 1) (by omega) (by omega)]
 obtain ⟨x,d',e,n0,n1,x0,x1⟩:=wLQ d (b - a + 1) h0 h1
 refine ⟨a + x,d',?_,n0,n1,by omega,by omega⟩
 rw [e,nA]
 simp only
 rw [wAa (by omega) (by omega)]
end Go.Proofs.YtbpllbhagaoocaaGreat
namespace Go.Proofs.YtbpllbhagaoocaaGreat
open Go.KL
def wFW (d:wAB) (n:Int):Prop:=0 <= d.next/\d.next <= n
theorem wIg {d:wAB} {N:Int} (h:wFW d N) (hN:N <= 1000000) (n:Int):∃ x d',wAJ d n=some (x,d')/\wFW d' (N + 1)/\0 <= x/\(x < n \/ (n <= 1/\x=0)):=by
 obtain ⟨x,d',e,a,b,c⟩:=wLQ d n h.1 (by have:=h.2;omega)
 exact ⟨x,d',e,⟨a,by have:=h.2;omega⟩,c⟩
theorem wIh {d:wAB} {N:Int} (h:wFW d N) (hN:N <= 1000000) {a b:Int} (ha:-1000000 <= a) (hab:a <= b) (hb:b <= 1000000):∃ x d',wAI d a b=some (x,d')/\wFW d' (N + 1)/\a <= x/\x <= b:=by
 obtain ⟨x,d',e,c,c2,c3⟩:=wOD d a b h.1 (by have:=h.2;omega) ha hab hb
 exact ⟨x,d',e,⟨c,by have:=h.2;omega⟩,c3⟩
abbrev IS:=(List Int) × Int × Int × Int × (List Int)
abbrev OS:=(List Int) × Int × Int × (List Int) × (List (List Int))
def rcI (x131:Int) (_:Nat):IS->Option IS
 | (l250,x253,x254,x255,l256) =>
   (wAJ (⟨l250,x253,x254⟩:wAB) 9).bind fun (x295,x296) =>
   (app 8 l256 [w64 (x255 + (w64 (x131 + x295)))]).bind fun x314 =>
   some (x296.bytes,x296.next,x296.state,w64 (x255 + (w64 (x131 + x295))),x314)
def rcB (x6:Int) (k99:Nat):OS->Option OS
 | (l85,x88,x89,l90,l94) =>
  (wAI (⟨l85,x88,x89⟩:wAB) 20 75).bind fun (x131,x132) =>
  (wAJ x132 60).bind fun (x145,x146) =>
  (wAJ x146 (w64 (x6 + 1))).bind fun (x191,x192) =>
  (wAJ x192 2).bind fun (x205,x206) =>
  (wBp 0 (w64 (x6 - (w64 (x191 * x205)))) (rcI x131) (x206.bytes,x206.next,x206.state,x145,[])).bind fun (y265,y266,y267,y268,y269) =>
  (wAI (⟨y265,y266,y267⟩:wAB) 1 7).bind fun (x426,x427) =>
  (app 8 l90 [w64 ((w64 (7 * (↑k99:Int))) + x426)]).bind fun x445 =>
  (app 24 l94 [y269]).bind fun x464 =>
  some (x427.bytes,x427.next,x427.state,x445,x464)
theorem wHE (p0:wAB) (p1:Int):wAm p0 p1=(wAI p0 1 7).bind fun (x6,x7) =>
 (wAI x7 1 p1).bind fun (x28,x29) =>
 (wBp 0 x28 (rcB x6) (x29.bytes,x29.next,x29.state,[],[])).bind fun (y104,y105,y106,y107,y108) =>
 some ((⟨x6,y107,y108⟩:wAE),(⟨y104,y105,y106⟩:wAB)):=rfl
structure II (x131:Int) (N:Int) (j:Nat) (s:IS):Prop where
 d:wFW ⟨s.1,s.2.1,s.2.2.1⟩ (N + j)
 x:0 <= s.2.2.2.1/\s.2.2.2.1 <= 59 + 83 * (j:Int)
 n:s.2.2.2.2.length=j
 i:s.2.2.2.2.Pairwise (· < ·)
 b:∀ y ∈ s.2.2.2.2,0 <= y/\y <= s.2.2.2.1
theorem wMK {x131:Int} (h1:20 <= x131) (h2:x131 <= 75) {N:Int} (hN:N <= 1000) {j:Nat} {s:IS} (hj:j <= 10) (I:II x131 N j s):∃ s',rcI x131 j s=some s'/\II x131 N (j + 1) s':=by
 obtain ⟨l,x,y,z,m⟩:=s
 obtain ⟨hd,hx,hn,hi,hb⟩:=I
 simp only at hd hx hn hi hb
 unfold rcI
 simp only
 obtain ⟨v,d',e,k,v0,v1⟩:=wIg hd (by omega) 9
 rw [e,nA]
 simp only
 rw [wAa (x:=x131 + v) (by omega) (by omega),wAa (by omega) (by omega),wEX (by simp only [ng,nj];omega),nA]
 refine ⟨_,rfl,⟨k.1,by have:=k.2;simp only;omega⟩,by simp only;omega,by simp;omega,?_,?_⟩
 ·simp only
  rw [nO]
  exact ⟨hi,nM _ _,fun a ha b hb'=>by rw [nE.1 hb'];have:=hb a ha;omega⟩
 ·intro u hu
  simp only at hu ⊢
  rcases nJ.1 hu with hu | hu
  ·have:=hb u hu;omega
  ·rw [nE.1 hu];omega
structure OI (laps:Int) (k:Nat) (s:OS):Prop where
 d:wFW ⟨s.1,s.2.1,s.2.2.1⟩ (2 + 12 * (k:Int))
 bn:s.2.2.2.1.length=k
 tn:s.2.2.2.2.length=k
 bi:s.2.2.2.1.Pairwise (· < ·)
 bb:∀ b ∈ s.2.2.2.1,1 <= b/\b <= 7 * (k:Int)
 tt:∀ l ∈ s.2.2.2.2,(l.length:Int) <= laps/\l.Pairwise (· < ·)/\∀ x ∈ l,0 <= x/\x <= 360000
theorem wML {laps:Int} (h1:1 <= laps) (h2:laps <= 7) {k:Nat} {s:OS} (hk:k < 12) (I:OI laps k s):∃ s',rcB laps k s=some s'/\OI laps (k + 1) s':=by
 obtain ⟨l,x,y,B,T⟩:=s
 obtain ⟨hd,hbn,htn,hbi,hbb,htt⟩:=I
 simp only at hd hbn htn hbi hbb htt
 unfold rcB
 simp only
 obtain ⟨v1,d1,e1,k1,a1,b1⟩:=wIh hd (by omega) (a:=20) (b:=75) (by omega) (by omega) (by omega)
 rw [e1,nA]
 simp only
 obtain ⟨v2,d2,e2,k2,a2,b2⟩:=wIg k1 (by omega) 60
 rw [e2,nA]
 simp only
 rw [wAa (x:=laps + 1) (by omega) (by omega)]
 obtain ⟨v3,d3,e3,k3,a3,b3⟩:=wIg k2 (by omega) (laps + 1)
 rw [e3,nA]
 simp only
 obtain ⟨v4,d4,e4,k4,a4,b4⟩:=wIg k3 (by omega) 2
 rw [e4,nA]
 simp only
 have hm:0 <= v3 * v4/\v3 * v4 <= laps:=by
  have:v4=0 \/ v4=1:=by omega
  rcases this with c | c
  ·subst c;rw [Int.mul_zero];omega
  ·subst c;rw [Int.mul_one];omega
 rw [wAa (x:=v3 * v4) (by omega) (by omega),wAa (by omega) (by omega)]
 generalize v3 * v4=P at hm
 obtain ⟨m,hmm⟩:∃ m:Nat,laps - P=m:=⟨(laps - P).toNat,by omega⟩
 rw [hmm]
 obtain ⟨⟨l',x',y',z',M⟩,e5,I5⟩:=wCC (body:=rcI v1) (n:=m) (s0:=(d4.bytes,d4.next,d4.state,v2,[])) (II v1 (2 + 12 * (k:Int) + 1 + 1 + 1 + 1)) (by omega) ⟨⟨k4.1,by have:=k4.2;simp only;omega⟩,by simp only;omega,rfl,nY,(fun y hy=>by cases hy)⟩ (fun i s hi I=>wMK a1 b1 (by omega) (by omega) I)
 rw [e5,nA]
 obtain ⟨hd5,hx5,hn5,hi5,hb5⟩:=I5
 simp only at hd5 hx5 hn5 hi5 hb5
 simp only
 obtain ⟨v6,d6,e6,k6,a6,b6⟩:=wIh hd5 (by omega) (a:=1) (b:=7) (by omega) (by omega) (by omega)
 rw [e6,nA]
 simp only
 rw [wAa (x:=7 * (k:Int)) (by omega) (by omega),wAa (by omega) (by omega),wEX (by simp only [ng,nj];omega),nA,wEX (by simp only [ng,nj];omega),nA]
 refine ⟨_,rfl,⟨k6.1,by have:=k6.2;simp only;omega⟩,by simp;omega,by simp;omega,?_,?_,?_⟩
 ·simp only
  rw [nO]
  exact ⟨hbi,nM _ _,fun a ha b hb'=>by rw [nE.1 hb'];have:=hbb a ha;omega⟩
 ·intro u hu
  simp only at hu ⊢
  rcases nJ.1 hu with hu | hu
  ·have:=hbb u hu;omega
  ·rw [nE.1 hu];omega
 ·intro u hu
  simp only at hu
  rcases nJ.1 hu with hu | hu
  ·exact htt u hu
  ·rw [nE.1 hu]
   exact ⟨by omega,hi5,fun x hx=>by have:=hb5 x hx;omega⟩
theorem wMM {d:wAB} (h:wFW d 0):∃ r d',wAm d 12=some (r,d')/\wFc r:=by
 rw [wHE]
 obtain ⟨laps,d1,e1,k1,l1,l2⟩:=wIh h (by omega) (a:=1) (b:=7) (by omega) (by omega) (by omega)
 rw [e1,nA]
 simp only
 obtain ⟨nn,d2,e2,k2,n1,n2⟩:=wIh k1 (by omega) (a:=1) (b:=12) (by omega) (by omega) (by omega)
 rw [e2,nA]
 simp only
 obtain ⟨n,rfl⟩:∃ n:Nat,nn=n:=⟨nn.toNat,by omega⟩
 obtain ⟨⟨l,x,y,B,T⟩,e,I⟩:=wCC (body:=rcB laps) (n:=n) (s0:=(d2.bytes,d2.next,d2.state,[],[])) (OI laps) (by omega) ⟨⟨k2.1,by have:=k2.2;simp only;omega⟩,rfl,rfl,nY,(fun y hy=>by cases hy),(fun y hy=>by cases hy)⟩ (fun i s hi I=>wML l1 l2 (by omega) I)
 rw [e,nA]
 obtain ⟨hd,hbn,htn,hbi,hbb,htt⟩:=I
 simp only at hd hbn htn hbi hbb htt
 refine ⟨_,_,rfl,⟨by simp only;omega,by simp only;omega,fun l hl=>by have:=(htt l hl).1;omega,fun l hl=>(htt l hl).2.1,fun l hl=>(htt l hl).2.2,?_⟩,by simp only;omega,fun l hl=>(htt l hl).1,fun b hb=>by have:=hbb b hb;omega⟩
 exact hbi.imp fun h=>by omega
end Go.Proofs.YtbpllbhagaoocaaGreat
namespace Go.Proofs.YtbpllbhagaoocaaGreat
open Go.KL
theorem wOE {S R:Type} (s:S) (k:S->Option R):jn (some (.inl s)) k=k s:=rfl
theorem wMN {S B:Type} {body:Nat->S->Option (S ⊕ B)} {n:Nat} {s0:S} (I:Nat->S->Prop) (hn:n <= 1000000) (h0:I 0 s0) (h:∀ k s,k < n->I k s->∃ s',body k s=some (.inl s')/\I (k + 1) s'):∃ s',wCu 0 (n:Int) body s0=some (.inl s')/\I n s':=by
 rw [wCg (by omega)]
 rcases wGU (body:=body) I (fun _=>False) n 0 s0 h0 (fun k s _ hk hI=>.inl (h k s (by omega) hI)) with ⟨s',e,hs⟩ | ⟨_,_,h⟩
 ·rw [nr] at hs
  exact ⟨s',e,hs⟩
 ·exact h.elim
theorem wHF {B:Type} {body:Nat->Unit->Option (Unit ⊕ B)} {n i:Nat} {v:B} (hi:i < n) (hn:n <= 1000000) (h:∀ q,q < i->body q ()=some (.inl ())) (hv:body i ()=some (.inr v)):wCu 0 (n:Int) body ()=some (.inr v):=by
 rw [wCg (by omega)]
 have key:∀ (m k:Nat),k <= i->i < k + m->forN body m k ()=some (.inr v):=by
  intro m
  induction m with
  | zero=>intro k h1 h2;omega
  | succ m ih =>
   intro k h1 h2
   by_cases e:k=i
   ·subst e;rw [forN,hv]
   ·rw [forN,h k (by omega)]
    exact ih (k + 1) (by omega) (by omega)
 exact key n 0 (by omega) (by omega)
theorem wIi {l:List Int} {x:Int} {i:Nat} (hl:l.length <= 1000) (hi:i < l.length) (e:gd l i=x) (hne:∀ q,q < i->gd l q ≠ x):wAN l x=some (i:Int):=by
 unfold wAN
 rw [wHF (i:=i) (v:=(i:Int)) hi (by omega) (fun q hq=>?_) ?_]
 ·rfl
 ·rw [wAh hi,nA,if_pos e.symm];rfl
 ·rw [wAh (by omega),nA,if_neg (fun h=>hne q hq h.symm)]
theorem wLR {l:List wAD} {f:wAD->Bool} {i:Nat} (hl:l.length <= 1000000) (hi:i < l.length) (e:f (gd l i)=true) (hne:∀ q,q < i->f (gd l q)=false):wAK l (fun x=>some (f x))=some (i:Int):=by
 unfold wAK
 rw [wHF (i:=i) (v:=(i:Int)) hi (by omega) (fun q hq=>?_) ?_]
 ·rfl
 ·rw [wAh hi,nA,nA,e,if_pos rfl];rfl
 ·rw [wAh (by omega),nA,nA,hne q hq,if_neg (by decide)]
def cB (t:Int) (l:List Int) (k2699:Nat) (x2698:Int):Option Int :=
                (idx l (↑k2699:Int)).bind fun x2738 =>
                if x2738 <= t then
                  some (w64 (x2698 + 1))
                else
                  some x2698
theorem wMO (t:Int) {l:List Int} (hl:l.length <= 1000):wBp 0 (↑l.length:Int) (cB t l) 0=some (cn l t:Int):=by
 have:=wHA (body:=cB t l) (n:=l.length) (s0:=0) (fun k=>(cn (l.take k) t:Int)) (by simp [cn]) (by omega) (fun i hi=>by
  unfold cB
  have hc:=wEb (l.take i) t
  rw [List.length_take] at hc
  rw [wAh hi,nA,wFV hi]
  unfold cn at hc ⊢
  rw [List.countP_append]
  by_cases c:gd l i <= t
  ·rw [if_pos c,wAa (by omega) (by omega)];simp [c]
  ·rw [if_neg c];simp [c])
 rw [nL] at this
 exact this
def mB (r:wAE) (A:List wAD) (k112:Nat) (l109:List (Int × Int)):Option (List (Int × Int) ⊕ Bool) :=
          (chk (↑k112:Int) A.length).bind fun _ =>
          (if (wDs l109 ((gd A k112).Bib))=true then
            some true
          else
            (wAZ r.Bibs ((gd A k112).Bib)).bind fun x160 =>
            if x160=true then
              if 0 < (↑k112:Int) then
                (chk (w64 ((↑k112:Int) - 1)) A.length).bind fun _ =>
                if ((gd A k112).Time) < ((gd A (w64 ((↑k112:Int) - 1)).toNat).Time) then
                  some true
                else
                  if ((gd A (w64 ((↑k112:Int) - 1)).toNat).Time)=((gd A k112).Time) then
                    some (decide (((gd A k112).Bib) <= ((gd A (w64 ((↑k112:Int) - 1)).toNat).Bib)))
                  else
                    some false
              else
                some false
            else
              some true).bind fun b148 =>
          if b148=true then
            esc (some false)
          else
            some (.inl (mput l109 ((gd A k112).Bib) ((gd A k112).Time)))
theorem wMp {r:wAE} (G:wFc r) {i:Nat} (hi:i < r.Bibs.length):wAN r.Bibs (gd r.Bibs i)=some (i:Int):=by
 have:=G.g.n
 exact wIi (by omega) hi rfl fun q hq e=>by
  have:=wDP G.g (by omega) hi e
  omega
theorem wPT {r:wAE} (G:wFc r) {D:List Int} {A:List wAD} {τ:Nat->Option Int} (R:wPS r D A τ):∃ m,wCu 0 (↑A.length:Int) (mB r A) []=some (.inl m)/\∀ i,i < r.Bibs.length->wED m (gd r.Bibs i)=τ i:=by
  have hal:=R.al
  have hn:=G.g.n
  have pw:∀ i j,i < j->j < A.length->(gd A i).Bib ≠ (gd A j).Bib/\ltO (gd A i) (gd A j):=fun i j hij hj=>by
    have h1:=nB.1 (nH.1 R.ents.one) i j (by simp;omega) (by simpa using hj) hij
    have h2:=nB.1 R.ord i j (by omega) hj hij
    rw [nI,nI] at h1
    rw [wBS (show i < A.length by omega),wBS hj]
    exact ⟨h1,h2⟩
  obtain ⟨m,e,h1,h2⟩:=wMN (body:=mB r A) (n:=A.length) (s0:=[]) (fun k m=>(∀ q,q < k->wED m (gd A q).Bib=some (gd A q).Time)/\(∀ b,wED m b ≠ none->∃ q,q < k/\(gd A q).Bib=b)) (by omega) ⟨fun q hq=>by omega,fun b hb=>absurd rfl hb⟩ (fun k m hk ⟨h1,h2⟩=>by
    unfold mB
    obtain ⟨i,hi,E⟩:=R.ents.of _ (wAS hk)
    have hno:wDs m (gd A k).Bib=false:=by
      unfold wDs
      cases c:wED m (gd A k).Bib with
      | none=>rfl
      | some v =>
        obtain ⟨q,hq,e⟩:=h2 (gd A k).Bib (by rw [c];simp)
        exact absurd e (pw q k hq hk).1
    have hcon:wAZ r.Bibs (gd A k).Bib=some true:=by
      unfold wAZ
      rw [E.bib,wMp G hi,nA];simp
    rw [wCb (by omega) (by omega),nA,hno,if_neg (by decide),hcon,nA,if_pos rfl]
    have hb:(if 0 < (↑k:Int) then
                (chk (w64 ((↑k:Int) - 1)) A.length).bind fun _ =>
                if ((gd A k).Time) < ((gd A (w64 ((↑k:Int) - 1)).toNat).Time) then
                  some true
                else
                  if ((gd A (w64 ((↑k:Int) - 1)).toNat).Time)=((gd A k).Time) then
                    some (decide (((gd A k).Bib) <= ((gd A (w64 ((↑k:Int) - 1)).toNat).Bib)))
                  else
                    some false
              else
                some false)=some false:=by
      by_cases c:0 < (k:Int)
      · rw [if_pos c,wAa (by omega) (by omega),wCb (by omega) (by omega),nA]
        have hl:=(pw (k - 1) k (by omega) hk).2
        have e1:((k:Int) - 1).toNat=k - 1:=by omega
        unfold ltO at hl
        rw [e1,if_neg (by omega)]
        by_cases d:(gd A (k - 1)).Time=(gd A k).Time
        · rw [if_pos d]
          have:¬ (gd A k).Bib <= (gd A (k - 1)).Bib:=by omega
          simp [this]
        · rw [if_neg d]
      · rw [if_neg c]
    rw [hb,nA,if_neg (by decide)]
    refine ⟨_,rfl,fun q hq=>?_,fun b hb=>?_⟩
    · rw [wGW]
      by_cases c:q=k
      · subst c;rw [if_pos rfl]
      · rw [if_neg (pw q k (by omega) hk).1]
        exact h1 q (by omega)
    · rw [wGW] at hb
      by_cases c:b=(gd A k).Bib
      · exact ⟨k,by omega,c.symm⟩
      · rw [if_neg c] at hb
        obtain ⟨q,hq,e⟩:=h2 b hb
        exact ⟨q,by omega,e⟩)
  refine ⟨m,e,fun i hi=>?_⟩
  have ofq:∀ q,q < A.length->(gd A q).Bib=gd r.Bibs i->τ i=some (gd A q).Time:=fun q hq eb=>by
    obtain ⟨j,hj,E⟩:=R.ents.of _ (wAS hq)
    have:j=i:=wDP G.g hj hi (E.bib.symm.trans eb)
    subst this;exact E.time
  cases c:τ i with
  | none =>
    cases d:wED m (gd r.Bibs i) with
    | none=>rfl
    | some v =>
      obtain ⟨q,hq,eb⟩:=h2 (gd r.Bibs i) (by rw [d];simp)
      rw [ofq q hq eb] at c;cases c
  | some s =>
    obtain ⟨o,ho,eb⟩:=R.ents.all i hi (by rw [c];simp)
    obtain ⟨q,hq,eq⟩:=nD ho
    have eg:gd A q=o:=by rw [wBS hq,eq]
    have:=ofq q hq (by rw [eg];exact eb)
    rw [<- eb,<- eg,h1 q hq,<- this,c]
end Go.Proofs.YtbpllbhagaoocaaGreat
namespace Go.Proofs.YtbpllbhagaoocaaGreat
open Go.KL
def lB (r:wAE) (D:List Int) (m:List (Int × Int)) (k283:Nat):(List Int) × (List (List Int))->Option (((List Int) × (List (List Int))) ⊕ Bool)
  | (l274,l278) =>
          (idx r.Bibs (↑k283:Int)).bind fun x312 =>
          (idx r.Times (↑k283:Int)).bind fun x322 =>
          jn (wCu 0 (↑x322.length:Int) (fun k339 (_:Unit) =>
            (chk (↑k283:Int) D.length).bind fun _ =>
            if (wDs m x312)=true then
              (idx x322 (↑k339:Int)).bind fun x388 =>
              if ((decide ((↑k339:Int) < (gd D k283))) == (decide (x388 <= (wBj m x312 0))))=true then
                some (.inl ())
              else
                esc (esc (some false))
            else
              if ((decide ((↑k339:Int) < (gd D k283))) == true)=true then
                some (.inl ())
              else
                esc (esc (some false))) ()) fun _ =>
          (chk (↑k283:Int) D.length).bind fun _ =>
          if (↑x322.length:Int) < (gd D k283) then
            esc (some false)
          else
            if (gd D k283) < 0 then
              esc (some false)
            else
              if (wDs m x312)=true then
                some (.inl (l274,l278))
              else
                (app 8 l274 [x312]).bind fun x482 =>
                (app 24 l278 [x322]).bind fun x505 =>
                some (.inl (x482,x505))
def tC (r:wAE) (A:List wAD) (m:List (Int × Int)) (x2622:Int) (k2576:Nat) (x2557:Int) (k2631:Nat) (_:Unit):Option (Unit ⊕ (Unit ⊕ (Unit ⊕ Bool))) :=
              (idx r.Bibs (↑k2631:Int)).bind fun x2664 =>
              (idx r.Times (↑k2631:Int)).bind fun x2680 =>
              (wBp 0 (↑x2680.length:Int) (cB x2622 x2680) 0).bind fun y2704 =>
              (if (w64 (y2704 + 2)) <= (w64 ((↑k2576:Int) + 1)) then
                if (wDs m x2664)=true then
                  some (decide (x2622 < (wBj m x2664 0)))
                else
                  some true
              else
                some false).bind fun b2781 =>
              if b2781=true then
                esc (esc (esc (some false)))
              else
                if (wDs m x2664)=true then
                  if (wBj m x2664 0)=x2622 then
                    (wAK A (fun x=>wAO x x2664)).bind fun x2849 =>
                    if x2849 < 0 then
                      esc (esc (esc (some false)))
                    else
                      (idx A x2849).bind fun x2871 =>
                      if x2871.Done=y2704 then
                        if (w64 (y2704 + 2)) <= (w64 ((↑k2576:Int) + 1)) then
                          if x2557 < x2871.By then
                            esc (esc (esc (some false)))
                          else
                            some (.inl ())
                        else
                          some (.inl ())
                      else
                        esc (esc (esc (some false)))
                  else
                    some (.inl ())
                else
                  some (.inl ())
def tB (r:wAE) (A:List wAD) (D:List Int) (m:List (Int × Int)) (k2533:Nat) (_:Unit):Option (Unit ⊕ Bool) :=
          (idx r.Bibs (↑k2533:Int)).bind fun x2557 =>
          (chk (↑k2533:Int) D.length).bind fun _ =>
          jn (wCu 0 (gd D k2533) (fun k2576 (_:Unit) =>
            (idx r.Times (↑k2533:Int)).bind fun x2604 =>
            (idx x2604 (↑k2576:Int)).bind fun x2622 =>
            jn (wCu 0 (↑r.Bibs.length:Int) (tC r A m x2622 k2576 x2557) ()) fun _ =>
            some (.inl ())) ()) fun _ =>
          some (.inl ())
def fB (r:wAE) (A:List wAD) (D:List Int) (k2975:Nat) (_:Unit):Option (Unit ⊕ Bool) :=
          (idx A (↑k2975:Int)).bind fun x2997 =>
          (wAN r.Bibs x2997.By).bind fun x3019 =>
          if x3019 < 0 then
            esc (some false)
          else
            (idx r.Times x3019).bind fun x3037 =>
            (wAN x3037 x2997.Time).bind fun x3056 =>
            if x3056 < 0 then
              esc (some false)
            else
              (chk x3019 D.length).bind fun _ =>
              if (gd D x3019.toNat) <= x3056 then
                esc (some false)
              else
                if (w64 (x3056 + 1)) < (w64 (x2997.Done + 2)) then
                  esc (some false)
                else
                  some (.inl ())
section
variable {r:wAE} (G:wFc r) {D:List Int} {A:List wAD} {τ:Nat->Option Int} (R:wPS r D A τ) {m:List (Int × Int)} (hM:∀ i,i < r.Bibs.length->wED m (gd r.Bibs i)=τ i)
include G R hM
omit G R in
theorem wLS {i:Nat} (hi:i < r.Bibs.length):wDs m (gd r.Bibs i)=(τ i).isSome:=by
 unfold wDs;rw [hM i hi]
omit G R in
theorem wIj {i:Nat} (hi:i < r.Bibs.length):wBj m (gd r.Bibs i) 0=(τ i).getD 0:=by
 unfold wBj;rw [hM i hi]
def lft (τ:Nat->Option Int) (k:Nat):List Nat:=(List.range k).filter fun i=>(τ i).isNone
omit G R hM in
theorem wLT (k:Nat):(lft τ k).length <= k:=by
 unfold lft
 have:=nk (fun i=>(τ i).isNone) (List.range k)
 simpa using this
theorem wOF:wCu 0 (↑r.Bibs.length:Int) (lB r D m) ([],[])=some (.inl ((lft τ r.Bibs.length).map (gd r.Bibs),(lft τ r.Bibs.length).map (gd r.Times))):=by
 have hn:=G.g.n
 have ht:=G.g.t
 have hdl:=R.dl
 refine wIc (fun k=>((lft τ k).map (gd r.Bibs),(lft τ k).map (gd r.Times))) rfl (by omega) fun k hk=>?_
 have hl:=G.g.len _ (wAS (l:=r.Times) (k:=k) (by omega))
 have hinc:=G.g.inc _ (wAS (l:=r.Times) (k:=k) (by omega))
 have hs:lft τ (k + 1)=lft τ k ++ if (τ k).isNone then [k] else []:=by
  unfold lft
  rw [List.range_succ,List.filter_append]
  by_cases c:(τ k).isNone <;> simp [c]
 have hle:=wLT (τ:=τ) k
 unfold lB
 simp only
 rw [wAh hk,nA,wAh (by omega),nA,wLS hM hk,wIj hM hk,wCb (by omega) (by omega),wCB (by omega) fun q hq=>?_,wOE,nA]
 ·rcases R.done k hk with ⟨c,hd⟩ | ⟨s,c,hd⟩
  ·rw [hs,c,if_neg (by omega),if_neg (by omega),if_neg (by decide),wEX (by simp;omega),nA,wEX (by simp;omega),nA,if_pos Option.isNone_none,nR,nR]
   rfl
  ·have:=wEb (gd r.Times k) s
   rw [hs,c,if_neg (by omega),if_neg (by omega),if_pos nP,if_neg (by simp),List.append_nil]
 ·rw [nA]
  rcases R.done k hk with ⟨c,hd⟩ | ⟨s,c,hd⟩
  ·rw [c,if_neg (by decide),if_pos]
   rw [beq_iff_eq,decide_eq_true_iff];omega
  ·rw [c,if_pos nP,wAh hq,nA,if_pos]
   have h1:=wHt (t:=s) hinc hq
   rw [beq_iff_eq,decide_eq_decide,hd,nh,<- h1]
   omega
theorem wPU {i j k:Nat} (hi:i < r.Bibs.length) (hj:j < r.Bibs.length) (hk:(k:Int) < gd D i):tC r A m (gd (gd r.Times i) k) k (gd r.Bibs i) j ()=some (.inl ()):=by
  have hn:=G.g.n
  have ht:=G.g.t
  have hal:=R.al
  have hinc:=G.g.inc _ (wAS (l:=r.Times) (k:=i) (by omega))
  have hli:=G.g.len _ (wAS (l:=r.Times) (k:=i) (by omega))
  have hlj:=G.g.len _ (wAS (l:=r.Times) (k:=j) (by omega))
  have hkl:k < (gd r.Times i).length/\nbf τ i (gd (gd r.Times i) k):=by
    rcases R.done i hi with ⟨c,hd⟩ | ⟨s,c,hd⟩
    · exact ⟨by omega,fun s h=>by rw [c] at h;cases h⟩
    · have h1:=wEb (gd r.Times i) s
      refine ⟨by omega,fun u h=>?_⟩
      rw [c] at h
      cases h
      exact (wHt hinc (by omega)).1 (by omega)
  obtain ⟨hkl,hnb⟩:=hkl
  have hc:=wNy hinc hkl
  have hmem:gd (gd r.Times i) k ∈ gd r.Times i:=wAS hkl
  generalize gd (gd r.Times i) k=now at hnb hc hmem
  have hex:=R.ex j hj i hi now hmem
  have hlap:cn (gd r.Times j) now + 2 <= k + 1->lap r τ j now i:=fun h=>⟨hi,hnb,hmem,by omega⟩
  have hcl:=wEb (gd r.Times j) now
  unfold tC
  rw [wAh hj,nA,wAh (by omega),nA,wMO now (by omega),nA,wLS hM hj,wIj hM hj,wAa (x:=(cn (gd r.Times j) now:Int) + 2) (by omega) (by omega),wAa (x:=(k:Int) + 1) (by omega) (by omega)]
  cases c:τ j with
  | none =>
    have hno:¬ ((cn (gd r.Times j) now:Int) + 2 <= (k:Int) + 1):=fun h=>by
      have:=(hex fun s h=>by rw [c] at h;cases h).2 ⟨i,hlap (by omega)⟩
      rw [c] at this;cases this
    rw [if_neg hno,nA,if_neg (by decide),if_neg (by decide)]
  | some s =>
    have hb:(if ((cn (gd r.Times j) now:Int) + 2 <= (k:Int) + 1) then
                if ((some s).isSome)=true then
                  some (decide (now < ((some s).getD 0)))
                else
                  some true
              else
                some false)=some false:=by
      by_cases h:(cn (gd r.Times j) now:Int) + 2 <= (k:Int) + 1
      · rw [if_pos h,if_pos nP,nh]
        have:¬ now < s:=fun hlt=>by
          have:=(hex fun u h=>by rw [c] at h;cases h;omega).2 ⟨i,hlap (by omega)⟩
          rw [c] at this
          cases this
          omega
        simp [this]
      · rw [if_neg h]
    rw [hb,nA,if_neg (by decide),if_pos nP,nh]
    by_cases e:s=now
    · subst e
      rw [if_pos rfl]
      obtain ⟨o,ho,eb⟩:=R.ents.all j hj (by rw [c];simp)
      obtain ⟨q,hq,eq⟩:=nD ho
      have eg:gd A q=o:=by rw [wBS hq,eq]
      obtain ⟨j',hj',E⟩:=R.ents.of o ho
      have:j'=j:=wDP G.g hj' hj (E.bib.symm.trans eb)
      subst this
      have et:o.Time=s:=by
        have:=E.time
        rw [c] at this
        cases this;rfl
      have hidx:wAK A (fun x=>wAO x (gd r.Bibs j'))=some (q:Int):=by
        refine wLR (f:=fun x=>decide (x.Bib=gd r.Bibs j')) (by omega) hq (by rw [eg];exact decide_eq_true eb) fun q' hq'=>decide_eq_false fun h=>?_
        have h1:=nB.1 (nH.1 R.ents.one) q' q (by simp;omega) (by simpa using hq) hq'
        rw [nI,nI,<- wBS (by omega),<- wBS hq,eg,eb] at h1
        exact h1 h
      rw [hidx,nA,if_neg (by omega),wAh hq,nA,eg,if_pos (by rw [E.done,et])]
      by_cases h:(cn (gd r.Times j') s:Int) + 2 <= (k:Int) + 1
      · rw [if_pos h]
        obtain ⟨u,hu,_,hmin⟩:=E.by_
        have:=hmin i (by rw [et];exact hlap (by omega))
        rw [if_neg (by omega)]
      · rw [if_neg h]
    · rw [if_neg e]
theorem wOG:wCu 0 (↑r.Bibs.length:Int) (tB r A D m) ()=some (.inl ()):=by
 have hn:=G.g.n
 have ht:=G.g.t
 have hdl:=R.dl
 refine wCB (by omega) fun i hi=>?_
 have hli:=G.g.len _ (wAS (l:=r.Times) (k:=i) (by omega))
 obtain ⟨d,hd,hdl2⟩:∃ d:Nat,gd D i=d/\d <= (gd r.Times i).length:=by
  rcases R.done i hi with ⟨c,hd⟩ | ⟨s,c,hd⟩
  ·exact ⟨_,hd,Nat.le_refl _⟩
  ·exact ⟨_,hd,wEb _ _⟩
 unfold tB
 rw [wAh hi,nA,wCb (by omega) (by omega),nA,hd,wCB (by omega) fun k hk=>?_,wOE]
 rw [wAh (by omega),nA,wAh (by omega),nA,wCB (by omega) fun j hj=>?_,wOE]
 exact wPU G R hM hi hj (by omega)
end
theorem by_ok {r:wAE} (G:wFc r) {D:List Int} {A:List wAD} {τ:Nat->Option Int} (R:wPS r D A τ):wCu 0 (↑A.length:Int) (fB r A D) ()=some (.inl ()):=by
 have hn:=G.g.n
 have ht:=G.g.t
 have hal:=R.al
 have hdl:=R.dl
 refine wCB (by omega) fun k hk=>?_
 obtain ⟨i,hi,E⟩:=R.ents.of _ (wAS hk)
 obtain ⟨j,eby,⟨hj,hnb,hmem,hcn⟩,_⟩:=E.by_
 have hinc:=G.g.inc _ (wAS (l:=r.Times) (k:=j) (by omega))
 have hlj:=G.g.len _ (wAS (l:=r.Times) (k:=j) (by omega))
 obtain ⟨c1,c2,c3⟩:=wMn hinc hmem
 have hdone:=E.done
 unfold fB
 rw [wAh hk,nA,eby,wMp G hj,nA,if_neg (by omega),wAh (by omega),nA]
 generalize (gd A k).Time=t at *
 rw [wIi (i:=cn (gd r.Times j) t - 1) (by omega) (by omega) c3 (fun q hq e=>by
  have:=nB.1 hinc q (cn (gd r.Times j) t - 1) (by omega) (by omega) hq
  rw [<- wBS (by omega),<- wBS (by omega),c3,e] at this
  omega),nA,if_neg (by omega),wCb (by omega) (by omega),nA,nG]
 have hlt:¬ gd D j <= ((cn (gd r.Times j) t - 1:Nat):Int):=by
  rcases R.done j hj with ⟨c,hd⟩ | ⟨s,c,hd⟩
  ·omega
  ·have:=wLL (gd r.Times j) (hnb s c)
   omega
 have hci:=wEb (gd r.Times i) t
 have hli:=G.g.len _ (wAS (l:=r.Times) (k:=i) (by omega))
 rw [if_neg hlt,hdone,wAa (by omega) (by omega),wAa (by omega) (by omega),if_neg (by omega)]
end Go.Proofs.YtbpllbhagaoocaaGreat
namespace Go.Proofs.YtbpllbhagaoocaaGreat
open Go.KL
theorem wGX (p0:List Int):wAn p0 =
 (wAm (⟨p0,0,17⟩:wAB) 12).bind fun (x16,x17) =>
 (wAs x16).bind fun (x57,x58) =>
 (wBM x16).bind fun (x73,x74) =>
 if x58=0 then
  if x74=0 then
   if (↑x73.length:Int)=(↑x16.Bibs.length:Int) then
    jn (wCu 0 (↑x57.length:Int) (mB x16 x57) ([]:List (Int × Int))) fun y225 =>
    jn (wCu 0 (↑x16.Bibs.length:Int) (lB x16 x73 y225) ([],[])) fun (y2505,y2506) =>
    jn (wCu 0 (↑x16.Bibs.length:Int) (tB x16 x57 x73 y225) ()) fun _ =>
    jn (wCu 0 (↑x57.length:Int) (fB x16 x57 x73) ()) fun _ =>
    (wAs (⟨x16.Laps,y2505,y2506⟩:wAE)).bind fun (x3118,x3119) =>
    if x3119=0 then
     if (↑x3118.length:Int)=0 then
      (wBc).bind fun x3136 =>
      some x3136
     else
      some false
    else
     some false
   else
    some false
  else
   some false
 else
  some false:=rfl
theorem wEN {τ:Nat->Option Int} {n i:Nat} (h:i ∈ lft τ n):i < n/\τ i=none:=by
 unfold lft at h
 obtain ⟨h1,h2⟩:=List.mem_filter.1 h
 exact ⟨List.mem_range.1 h1,by simpa using h2⟩
theorem wOH {r:wAE} (G:wFc r) {D:List Int} {A:List wAD} {τ:Nat->Option Int} (R:wPS r D A τ):wAs (⟨r.Laps,(lft τ r.Bibs.length).map (gd r.Bibs),(lft τ r.Bibs.length).map (gd r.Times)⟩:wAE)=some ([],0):=by
 have hn:=G.g.n
 have ht:=G.g.t
 have hle:=wLT (τ:=τ) r.Bibs.length
 have hT:∀ l ∈ (lft τ r.Bibs.length).map (gd r.Times),l ∈ r.Times:=fun l hl=>by
  obtain ⟨i,hi,e⟩:=nc.1 hl
  have:=wEN hi
  exact e ▸ wAS (by omega)
 have G':wFc (⟨r.Laps,(lft τ r.Bibs.length).map (gd r.Bibs),(lft τ r.Bibs.length).map (gd r.Times)⟩:wAE):=by
  refine ⟨⟨by simp;omega,by simp,fun l hl=>G.g.len l (hT l hl),fun l hl=>G.g.inc l (hT l hl),fun l hl=>G.g.pos l (hT l hl),?_⟩,G.laps,fun l hl=>G.le l (hT l hl),fun b hb=>?_⟩
  ·show ((lft τ r.Bibs.length).map (gd r.Bibs)).Nodup
   rw [nH,nv]
   have:(lft τ r.Bibs.length).Pairwise (· < ·):=List.pairwise_lt_range.filter _
   refine this.imp_of_mem fun {a b} ha hb hab e=>?_
   have:=wDP G.g (wEN ha).1 (wEN hb).1 e
   omega
  ·obtain ⟨i,hi,e⟩:=nc.1 hb
   exact G.bib b (e ▸ wAS (wEN hi).1)
 obtain ⟨p,A',τ',e,R'⟩:=wMo G'.g
 rw [wHD G' e]
 have hb:∀ q,q < (lft τ r.Bibs.length).length->gd (lft τ r.Bibs.length) q ∈ lft τ r.Bibs.length:=fun q hq=>wAS hq
 have tm:∀ q,q < (lft τ r.Bibs.length).length->gd ((lft τ r.Bibs.length).map (gd r.Times)) q=gd r.Times (gd (lft τ r.Bibs.length) q):=fun q hq=>wNw _ hq
 have none':∀ q,q < (lft τ r.Bibs.length).length->τ' q=none:=fun q hq=>by
  cases c:τ' q with
  | none=>rfl
  | some s =>
   exfalso
   have hq':q < ((lft τ r.Bibs.length).map (gd r.Bibs)).length:=by simpa using hq
   obtain ⟨l,hl,hs⟩:=R'.in_ q s hq' c
   obtain ⟨j,hj,ej⟩:=nD hl
   have hj1:j < (lft τ r.Bibs.length).length:=by simpa using hj
   rw [<- wBS hj] at ej
   have hs':s ∈ gd ((lft τ r.Bibs.length).map (gd r.Times)) j:=by rw [ej];exact hs
   have hj':j < ((lft τ r.Bibs.length).map (gd r.Bibs)).length:=by simpa using hj1
   obtain ⟨k,hk,_,hmem,hcn⟩:=(R'.ex q hq' j hj' s hs' fun u hu=>by rw [c] at hu;cases hu;omega).1 c
   have hk1:k < (lft τ r.Bibs.length).length:=by simpa using hk
   have hmem':s ∈ gd r.Times (gd (lft τ r.Bibs.length) k):=by rw [<- tm k hk1];exact hmem
   have hcn':cn (gd r.Times (gd (lft τ r.Bibs.length) q)) s + 2 <= cn (gd r.Times (gd (lft τ r.Bibs.length) k)) s:=by
    rw [<- tm k hk1,<- tm q hq];exact hcn
   obtain ⟨q1,q2⟩:=wEN (hb q hq)
   obtain ⟨k1,k2⟩:=wEN (hb k hk1)
   have:=(R.ex _ q1 _ k1 s hmem' fun u hu=>by rw [q2] at hu;cases hu).2 ⟨_,k1,(fun u hu=>by rw [k2] at hu;cases hu),hmem',hcn'⟩
   rw [q2] at this;cases this
 have hA:A'=[]:=by
  cases A' with
  | nil=>rfl
  | cons o A' =>
   obtain ⟨i,hi,E⟩:=R'.ents.of o (by simp)
   have:=E.time
   rw [none' i (by simpa using hi)] at this
   cases this
 rw [hA]
theorem wJJ (p0:List Int):wAn p0=some true:=by
 rw [wGX]
 obtain ⟨r,d,e1,G⟩:=wMM (d:=(⟨p0,0,17⟩:wAB)) ⟨by simp,by simp⟩
 obtain ⟨p,A,τ,e2,R⟩:=wMo G.g
 rw [e1,nA]
 simp only
 rw [wHD G e2,nA]
 simp only
 rw [wJI G e2,nA]
 simp only
 obtain ⟨m,e3,hM⟩:=wPT G R
 rw [if_pos trivial,if_pos trivial,if_pos (by rw [R.dl]),e3,wOE,wOF G R hM,wOE]
 simp only
 rw [wOG G R hM,wOE,by_ok G R,wOE,wOH G R,nA]
 rfl
end Go.Proofs.YtbpllbhagaoocaaGreat
