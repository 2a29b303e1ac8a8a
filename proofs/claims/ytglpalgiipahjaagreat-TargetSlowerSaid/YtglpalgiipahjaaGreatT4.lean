import Derived.Test.YtglpalgiipahjaaGreatT3
import Derived.Test.YtglpalgiipahjaaGreatT0
import Derived.Lib.SlicesCompact
import Derived.Test.YtglpalgiipahjaaGreatT1
import Derived.Test.YtglpalgiipahjaaGreatT2
set_option linter.all false
open Option renaming bind_some->nA,getD_none->nj
open List renaming pairwise_iff_getElem->nB,getElem_of_mem->nD,mem_singleton->nG,mem_append->nI,length_append->nJ,nodup_iff_pairwise_ne->nK,take_length->nL,getElem_map->nM,getElem?_eq_getElem->nN,replicate->nP,flatMap->nQ,set->nR,length_cons->nS,length_nil->nT,count_eq_zero->nU,countP_cons->nW,length_singleton->nY,countP_eq_zero->nZ,pairwise_cons->na,getD_eq_getElem?_getD->nb,count_append->nf,drop_eq_getElem_cons->ng,pairwise_singleton->nl,pairwise_mergeSort->np,map_append->nq,drop_eq_nil_of_le->nr,pairwise_append->nt,mergeSort_perm->nu,nodup_append->nz
open Int renaming toNat_natCast->nE,le_refl->nH,tmod_eq_emod_of_nonneg->nc,le_of_lt->ni
open Option.some renaming inj->nO
open Bool renaming not_eq_true'->nV,noConfusion->nX,false_eq_true->nw
open Nat renaming lt_or_ge->nh,zero_add->ny
open Go.Value renaming int->nv
namespace Go.KL
open Go.RowKit Go.Lib Go.Sort
def wEz (l:List Int):Option (List Int):=if l.length < 4611686018427387904 then some (Go.Lib.compact l) else none
theorem wIK (l:List Int):(Go.Lib.compact l).length <= l.length:=by
 unfold Go.Lib.compact Go.Lib.compactUpTo
 rw [List.length_map]
 exact Nat.le_trans (List.length_filter_le _ _) (by simp)
theorem wIL {P:Program} {f T:Nat} {A:Option Addr} {c:Nat} {p r:List Int} {w:World} {φ:PHeap}
  (H:∀ (blk off cap:Nat) (zs:List Int) (w:World),Go.Sort.Holds (nv .i64) w blk off zs.toArray->zs.length <= 9223372036854775807->zs.length <= cap->Calls P f #[.slice (some ⟨blk,off,none⟩) zs.length cap] w fun e w'=>e=.returned (.slice (some ⟨blk,off,none⟩) (Go.Lib.compact zs).length cap)/\∃ q,w'=Go.Sort.putRow (nv .i64) (Go.Sort.ahead w q) blk off (Go.Lib.compact zs ++ nP (zs.length - (Go.Lib.compact zs).length) 0).toArray)
  (HN:∀ (p:Option Addr) (cap:Nat) (w:World),Calls P f #[.slice p 0 cap] w fun e w'=>e=.returned (.slice p 0 cap)/\w'=w)
  (hS:St ⟨w,[.row A c T 1 (nQ encI p)],φ⟩ φ [.row A c T 1 (nQ encI p)] w) (hm:wEz p=some r) :
  Gv P f [.slice A p.length c] w (wCN w [.row A c T 1 (nQ encI p)] φ fun φ_ L_ v=>∃ (A0:Option Addr) (c0:Nat),v=.slice A0 r.length c0/\L_=[.row A0 c0 T 1 (nQ encI r)]):=by
 unfold wEz at hm
 split at hm
 ·rename_i hlen
  cases hm
  have hfl:∀ l:List Int,l.flatMap encI=l.map (nv .i64):=fun l=>wFX l
  have hr:=hS.at_ _ (List.mem_cons_self ..)
  have nil:p=[]->Gv P f [.slice A p.length c] w (wCN w [.row A c T 1 (nQ encI p)] φ fun φ_ L_ v=>∃ (A0:Option Addr) (c0:Nat),v=.slice A0 (Go.Lib.compact p).length c0/\L_=[.row A0 c0 T 1 (nQ encI (Go.Lib.compact p))]):=by
   rintro rfl
   refine Calls.mono' (HN A c w) ?_
   rintro e w' ⟨rfl,rfl⟩
   exact ⟨_,rfl,φ,_,hS,A,c,rfl,rfl⟩
  rcases hr with ⟨rfl,rfl,h0⟩ | ⟨b,cur,rfl,h1,h2,_⟩
  ·refine nil ?_
   rw [hfl] at h0
   simpa using h0
  ·obtain ⟨g1,g2⟩:=hS.holds (k:=0) rfl
   rw [hfl] at g1 h2
   refine Calls.mono' (H b 0 c p w (wHP _ _ _ _ _ (by simpa using g1)) (by omega) (by simpa using h2)) ?_
   rintro e w' ⟨rfl,n,rfl⟩
   have hl:=wIK p
   have s1:=hS.sorted (k:=0) (n:=n) (os:=#[]) (cs':=(Go.Lib.compact p ++ nP (p.length - (Go.Lib.compact p).length) 0).map (nv .i64)) rfl (by rw [hfl];simp;omega)
   have e0:∀ x:World,Go.Sort.grow x #[]=x:=fun x=>by simp [Go.Sort.grow]
   rw [e0,nq] at s1
   have s2:=s1.cutRow (k:=0) rfl
   refine ⟨_,rfl,φ,[.row (some ⟨b,0,none⟩) c T 1 (nQ encI (Go.Lib.compact p))],?_,_,c,rfl,rfl⟩
   rw [wGN,hfl (Go.Lib.compact p)]
   simpa using s2
 ·cases hm
end Go.KL
namespace Go.Proofs.YtglpalgiipahjaaGreat
open Go.KL
noncomputable section
structure wAC where
 bytes:List Int
 next:Int
 state:Int
deriving DecidableEq,Inhabited,Repr
structure wAD where
 X:Int
 Y:Int
deriving DecidableEq,Inhabited,Repr
structure wAE where
 Laps:Int
 Bibs:List Int
 Times:List (List Int)
deriving DecidableEq,Inhabited,Repr
structure wAA where
 Race:wAE
 done:List Int
 out:List Bool
deriving DecidableEq,Inhabited,Repr
structure wAB where
 Bib:Int
 Done:Int
 Time:Int
 By:Int
deriving DecidableEq,Inhabited,Repr
def wBM (p0:List Int):Option (wAC) :=
 some (⟨p0,0,17⟩:wAC)
def wAQ (p0:wAC) (p1:Int):Option (Int × wAC) :=
 if p1 <= 1 then
  some (0,p0)
 else
  if (↑p0.bytes.length:Int)=0 then
   some (0,p0)
  else
   (rem p0.next (↑p0.bytes.length:Int)).bind fun x10 =>
   (idx p0.bytes x10).bind fun x13 =>
   (quo p0.next (↑p0.bytes.length:Int)).bind fun x20 =>
   (rem (wDN ((wDN ((wDN ((wDN (p0.state * 45)) + (wDN x13))) + (wDN (77 * (wDN x20))))) + 1)) 65519).bind fun x32 =>
   if (wDN x20)=0 then
    if p1 <= 256 then
     (rem (w64 (wDN x13)) p1).bind fun x42 =>
     some (x42,(⟨p0.bytes,w64 (p0.next + 1),x32⟩:wAC))
    else
     (rem (w64 (wDN ((wDN (x32 * 256)) + (wDN x13)))) p1).bind fun x46 =>
     some (x46,(⟨p0.bytes,w64 (p0.next + 1),x32⟩:wAC))
   else
    (rem (w64 (wDN ((wDN (x32 * 256)) + (wDN x13)))) p1).bind fun x50 =>
    some (x50,(⟨p0.bytes,w64 (p0.next + 1),x32⟩:wAC))
def wAH (p0:wAC) (p1:Int) (p2:Int):Option (Int × wAC) :=
 (wAQ p0 (w64 ((w64 (p2 - p1)) + 1))).bind fun (x2,x3) =>
 some (w64 (p1 + x2),x3)
def wAt (p0:wAC) (p1:Int):Option ((List wAD) × wAC) :=
 (wAQ p0 (w64 (p1 + 1))).bind fun (x2,x3) =>
 (wBw 0 x2 (fun k53 (l44,x47,x48,l49) =>
  (wAQ (⟨l44,x47,x48⟩:wAC) 5).bind fun (x80,x81) =>
  (wAH x81 (-60) 60).bind fun (x94,x95) =>
  (wAH x95 (-40) 40).bind fun (x108,x109) =>
  (app 16 l49 [(⟨w64 ((w64 (2500 * x80)) + (w64 (10 * x94))),w64 (10 * x108)⟩:wAD)]).bind fun x127 =>
  some (x109.bytes,x109.next,x109.state,x127)) (x3.bytes,x3.next,x3.state,[])).bind fun (y58,y59,y60,y61) =>
 some (y61,(⟨y58,y59,y60⟩:wAC))
def wAW (p0:wAD) (p1:(wAD->Option Bool)):Option (Bool) :=
 (p1 p0).bind fun x5 =>
 some (!x5)
def wAO (p0:List wAD) (p1:(wAD->Option Bool)):Option (Int) :=
 jn (wEo 0 (↑p0.length:Int) (fun k2 _ =>
  (idx p0 (↑k2:Int)).bind fun x22 =>
  (p1 x22).bind fun x30 =>
  if x30=true then
   esc (some (↑k2:Int))
  else
   some (.inl ())) ()) fun _ =>
 some (-1)
def wAM (p0:List wAD) (p1:(wAD->Option Bool)):Option (Bool) :=
 (wAO p0 p1).bind fun x1 =>
 some (decide (0 <= x1))
def wAd (p0:List wAD) (p1:(wAD->Option Bool)):Option (Bool) :=
 (wAM p0 (fun x=>wAW x p1)).bind fun x13 =>
 some (!x13)
def wBQ (p0:Int) (p1:Int) (p2:Int):Option (Bool) :=
 if p1 <= p0 then
  some (decide (p0 <= p2))
 else
  some false
def wAh (p0:wAD):Option (Bool) :=
 (wBQ p0.X (-20000) 20000).bind fun x5 =>
 if x5=true then
  (wBQ p0.Y (-20000) 20000).bind fun x17 =>
  some x17
 else
  some false
def wBn (p0:Int) (p1:List wAD):Option ((List Int) × Int) :=
 jn (if p0=0 then
  if 8 < (↑p1.length:Int) then
   esc (some ([],2))
  else
   (wAd p1 wAh).bind fun x14 =>
   if x14=true then
    some (.inl ())
   else
    esc (some ([],3))
 else
  if p0=1 then
   if 8 < (↑p1.length:Int) then
    esc (some ([],2))
   else
    (wAd p1 wAh).bind fun x44 =>
    if x44=true then
     some (.inl ())
    else
     esc (some ([],3))
  else
   esc (some ([],3))) fun _ =>
 (idx ([225,575]:List Int) p0).bind fun x77 =>
 jn (wEo 0 (↑p1.length:Int) (fun k110 (a104,x105,l106) =>
  (idx p1 (↑k110:Int)).bind fun x135 =>
  if x105=5 then
   esc (some ([],9))
  else
   (wBw 1 (5 + 1) (fun k165 x164 =>
    (chk (1 + ↑k165:Int) 6).bind fun _ =>
    if (a104.get ((1 + ↑k165:Int).toNat))=true then
     some x164
    else
     if (w64 ((w64 ((w64 (x135.X - (w64 (2500 * (w64 ((1 + ↑k165:Int) - 1)))))) * (w64 (x135.X - (w64 (2500 * (w64 ((1 + ↑k165:Int) - 1)))))))) + (w64 (x135.Y * x135.Y)))) <= (w64 (x77 * x77)) then
      some (1 + ↑k165:Int)
     else
      some x164) 0).bind fun y170 =>
   if 0 < y170 then
    (chk y170 6).bind fun _ =>
    (app 8 l106 [y170]).bind fun x235 =>
    some (.inl ((a104.set y170.toNat true),w64 (x105 + 1),x235))
   else
    (app 8 l106 [y170]).bind fun x254 =>
    some (.inl (a104,x105,x254))) ((Arr.fill 6 false),0,[])) fun (y271,y272,y273) =>
 some (y273,0)
def wBb (p0:Int) (p1:List wAD):Option (Int × Int) :=
 (wBn p0 p1).bind fun (x1,x2) =>
 if x2=0 then
  (wBw 0 (↑x1.length:Int) (fun k23 x22 =>
   (chk (↑k23:Int) x1.length).bind fun _ =>
   if 0 < (gd x1 k23) then
    some (w64 (x22 - 1))
   else
    some x22) 5).bind fun y28 =>
  some (y28,0)
 else
  some (0,x2)
def wAr (p0:List Int):Option ((List Int)) :=
 (app 8 ([]:List Int) p0).bind fun x4 =>
 some x4
def wAY (p0:List (List Int)):Option ((List (List Int))) :=
 (wBw 0 (↑p0.length:Int) (fun k24 l18 =>
  (idx p0 (↑k24:Int)).bind fun x50 =>
  (wAr x50).bind fun x63 =>
  (app 24 l18 [x63]).bind fun x88 =>
  some x88) []).bind fun y29 =>
 some y29
def wCE (p0:Int) (p1:Int) (p2:Int):Option (Bool) :=
 if p1 <= p0 then
  some (decide (p0 <= p2))
 else
  some false
def wAu (p0:List Int) (p1:wAE):Option (Bool) :=
 some (decide ((↑p0.length:Int) <= p1.Laps))
def wBR (p0:List (List Int)) (p1:((List Int)->Option Bool)):Option (Bool) :=
 jn (wEo 0 (↑p0.length:Int) (fun k2 _ =>
  (idx p0 (↑k2:Int)).bind fun x22 =>
  (p1 x22).bind fun x35 =>
  if x35=true then
   some (.inl ())
  else
   esc (some false)) ()) fun _ =>
 some true
def wAv (p0:List Int) (p1:(Int->Option Bool)):Option (Bool) :=
 jn (wEo 0 (↑p0.length:Int) (fun k2 _ =>
  (idx p0 (↑k2:Int)).bind fun x22 =>
  (p1 x22).bind fun x30 =>
  if x30=true then
   some (.inl ())
  else
   esc (some false)) ()) fun _ =>
 some true
def wAw (p0:Int):Option (Bool) :=
 (wCE p0 1 999).bind fun x1 =>
 some x1
def wAm (p0:Int):Option (Bool) :=
 (wCE p0 0 360000).bind fun x1 =>
 some x1
def wAx (p0:List Int):Option (Bool) :=
 (wAv p0 wAm).bind fun x2 =>
 some x2
def wBz (p0:List Int):Option (Bool) :=
 jn (wEo 0 (↑p0.length:Int) (fun k20 l17 =>
  (idx p0 (↑k20:Int)).bind fun x41 =>
  if (wDo l17 x41 false)=true then
   esc (some true)
  else
   some (.inl (mput l17 x41 true))) ([]:List (Int × Bool))) fun y68 =>
 some false
def wBS (p0:wAE):Option (Int) :=
 (wCE p0.Laps 1 20).bind fun x10 =>
 if x10=true then
  if 60 < (↑p0.Bibs.length:Int) then
   some 2
  else
   if (↑p0.Times.length:Int)=(↑p0.Bibs.length:Int) then
    (wBR p0.Times (fun x=>wAu x p0)).bind fun x33 =>
    if x33=true then
     (wAv p0.Bibs wAw).bind fun x48 =>
     if x48=true then
      (wBR p0.Times wAx).bind fun x64 =>
      if x64=true then
       (wBz p0.Bibs).bind fun x79 =>
       if x79=true then
        some 5
       else
        jn (wEo 0 (↑p0.Times.length:Int) (fun k97 _ =>
         (idx p0.Times (↑k97:Int)).bind fun x116 =>
         jn (wEo 1 (↑x116.length:Int) (fun k132 _ =>
          (idx x116 (1 + ↑k132:Int)).bind fun x155 =>
          (idx x116 (w64 ((1 + ↑k132:Int) - 1))).bind fun x163 =>
          if x155 <= x163 then
           esc (esc (some 4))
          else
           some (.inl ())) ()) fun _ =>
         some (.inl ())) ()) fun _ =>
        some 0
      else
       some 3
     else
      some 3
    else
     some 2
   else
    some 2
 else
  some 2
def wAz (p0:List Int) (p1:Int):Option ((List Int)) :=
 if p1 < 0 then
  none
 else
  if 0 < (w64 (p1 - 0)) then
   (appZ 8 (w64 (p1 - 0)) (0:Int)).bind fun x6 =>
   some ([]:List Int)
  else
   some []
def wAn (p0:List (List Int)):Option ((List Int)) :=
 (wBw 0 (↑p0.length:Int) (fun k7 x6 =>
  (idx p0 (↑k7:Int)).bind fun x29 =>
  if (w64 (x6 + (↑x29.length:Int))) < 0 then
   none
  else
   some (w64 (x6 + (↑x29.length:Int)))) 0).bind fun y12 =>
 (wAz [] y12).bind fun x59 =>
 (wBw 0 (↑p0.length:Int) (fun k86 l83 =>
  (idx p0 (↑k86:Int)).bind fun x107 =>
  (app 8 l83 x107).bind fun x122 =>
  some x122) x59).bind fun y91 =>
 some y91
def wBN (p0:List Int):Option (List Int):=wMR p0
def wBA (p0:List Int):Option (List Int):=wEz p0
def wAZ {S E:Type} (f:S->Int->Option (S ⊕ E)) (s0:S) (p1:List Int):Option (S ⊕ E) :=
 jn (wEo 0 (↑p1.length:Int) (fun k12 s10 =>
  (idx p1 (↑k12:Int)).bind fun x33 =>
  (f s10 x33).bind fun yr41 =>
  match yr41 with
  | .inl s51 =>
   some (.inl s51)
  | .inr s51 =>
   esc (some (.inr s51))) s0) fun y65 =>
 some (.inl y65)
def wBH (p0:List Int):Option (Unit) :=
 some ()
def wBB (p0:wAE):Option ((List Int)) :=
 (wAn p0.Times).bind fun x5 =>
 (wBN x5).bind fun x18 =>
 (wBA x18).bind fun x29 =>
 (wBH x29).bind fun _ =>
 some x29
def wAf (p0:wAA) (p1:Int) (p2:Int) (p3:Int):Option (Int) :=
 (wBw 0 (↑p0.done.length:Int) (fun k7 x6 =>
  ((idx p0.done (↑k7:Int)).bind fun x35 =>
  (idx p0.out (↑k7:Int)).bind fun x46 =>
  if x46=true then
   some x6
  else
   if (w64 (p2 + 2)) <= x35 then
    (idx p0.Race.Times (↑k7:Int)).bind fun x60 =>
    (idx x60 (w64 (x35 - 1))).bind fun x73 =>
    if x73=p3 then
     if x6 < 0 then
      some (↑k7:Int)
     else
      (idx p0.Race.Bibs (↑k7:Int)).bind fun x96 =>
      (idx p0.Race.Bibs x6).bind fun x104 =>
      if x96 < x104 then
       some (↑k7:Int)
      else
       some x6
    else
     some x6
   else
    some x6).bind fun x31 =>
  some x31) (-1)).bind fun y12 =>
 some y12
def wAg (p0:wAA) (p1:Int):Option ((List Int) × wAA) :=
 (wBw 0 (↑p0.Race.Times.length:Int) (fun k10 l9 =>
  (idx p0.Race.Times (↑k10:Int)).bind fun x33 =>
  (chk (↑k10:Int) l9.length).bind fun _ =>
  (chk (↑k10:Int) p0.out.length).bind fun _ =>
  if (gd p0.out k10)=true then
   some l9
  else
   if (gd l9 k10) < (↑x33.length:Int) then
    (idx x33 (gd l9 k10)).bind fun x62 =>
    if x62=p1 then
     some (nR l9 k10 (w64 ((gd l9 k10) + 1)))
    else
     some l9
   else
    some l9) p0.done).bind fun y15 =>
 (wBw 0 (↑y15.length:Int) (fun k121 l117 =>
  (chk (↑k121:Int) y15.length).bind fun _ =>
  (chk (↑k121:Int) p0.out.length).bind fun _ =>
  if (gd p0.out k121)=true then
   some l117
  else
   (wAf (⟨p0.Race,y15,p0.out⟩:wAA) (↑k121:Int) (gd y15 k121) p1).bind fun x193 =>
   if 0 <= x193 then
    (app 8 l117 [(↑k121:Int)]).bind fun x222 =>
    some x222
   else
    some l117) []).bind fun y126 =>
 some (y126,(⟨p0.Race,y15,p0.out⟩:wAA))
noncomputable def wAV (p0:List wAB) (p1:((wAB × wAB)->Option Int)):Option (List wAB):=wKr p1 p0
def wBi (p0:Int):Option (Bool) :=
 some (decide (¬ (p0=p0)))
def wBK (p0:Int) (p1:Int):Option (Int) :=
 (wBi p0).bind fun x1 =>
 (wBi p1).bind fun x11 =>
 if x1=true then
  if x11=true then
   some 0
  else
   some (-1)
 else
  if x11=true then
   some 1
  else
   if p0 < p1 then
    some (-1)
   else
    if p1 < p0 then
     some 1
    else
     some 0
def wCO (p0:List Int):Option (Int) :=
 jn (wEo 0 (↑p0.length:Int) (fun k2 _ =>
  (idx p0 (↑k2:Int)).bind fun x22 =>
  if x22=0 then
   some (.inl ())
  else
   esc (some x22)) ()) fun _ =>
 some 0
def wAb (p0:wAB) (p1:wAB):Option (Int) :=
 (wBK p0.Time p1.Time).bind fun x11 =>
 (wBK p0.Bib p1.Bib).bind fun x21 =>
 (wCO [x11,x21]).bind fun x41 =>
 some x41
def wCF (p0:wAE):Option (wAA × (List wAB)) :=
 ((mkz 8 (↑p0.Bibs.length:Int) (0:Int)).bind fun x18 =>
 (mkz 1 (↑p0.Bibs.length:Int) false).bind fun x26 =>
 some (x18,x26)).bind fun (l9,l12) =>
 (wBB p0).bind fun x520 =>
 (wAZ (S:=(List wAB) × Int × (List Int) × (List (List Int)) × (List Int) × (List Bool)) (E:=Empty) (fun (l1081,x1085,l1086,l1089,l1092,l1095) x1124 =>
  (wAg (⟨(⟨x1085,l1086,l1089⟩:wAE),l1092,l1095⟩:wAA) x1124).bind fun (x1150,x1151) =>
  (wBw 0 (↑x1150.length:Int) (fun k1191 l1188 =>
   (chk (↑k1191:Int) x1150.length).bind fun _ =>
   (idx x1151.Race.Bibs (gd x1150 k1191)).bind fun x1222 =>
   (chk (gd x1150 k1191) x1151.done.length).bind fun _ =>
   (wAf x1151 (gd x1150 k1191) (gd x1151.done (gd x1150 k1191).toNat) x1124).bind fun x1264 =>
   (idx x1151.Race.Bibs x1264).bind fun x1286 =>
   (app 32 l1188 [(⟨x1222,(gd x1151.done (gd x1150 k1191).toNat),x1124,x1286⟩:wAB)]).bind fun x1299 =>
   some x1299) l1081).bind fun y1196 =>
  (wBw 0 (↑x1150.length:Int) (fun k1338 l1337 =>
   (chk (↑k1338:Int) x1150.length).bind fun _ =>
   (chk (gd x1150 k1338) l1337.length).bind fun _ =>
   some (nR l1337 (gd x1150 k1338).toNat true)) x1151.out).bind fun y1343 =>
  some (.inl (y1196,x1151.Race.Laps,x1151.Race.Bibs,x1151.Race.Times,x1151.done,y1343))) ([],p0.Laps,p0.Bibs,p0.Times,l9,l12) x520).bind fun rr1118 =>
 match rr1118 with
 | .inl (y1416,y1417,y1418,y1419,y1420,y1421) =>
  (wAV y1416 (fun x=>wAb x.1 x.2)).bind fun x1438 =>
  some ((⟨(⟨y1417,y1418,y1419⟩:wAE),y1420,y1421⟩:wAA),x1438)
 | .inr e1432 =>
  e1432.elim
def wBJ (p0:wAE):Option ((List wAB) × Int) :=
 (wBS p0).bind fun x5 =>
 if x5=0 then
  (wCF p0).bind fun (x19,x20) =>
  some (x20,0)
 else
  some ([],x5)
def wAL (p0:wAB) (p1:Int):Option (Bool) :=
 some (decide (p0.Bib=(w64 (p1 + 1))))
def wAU (p0:List wAB) (p1:(wAB->Option Bool)):Option (Int) :=
 jn (wEo 0 (↑p0.length:Int) (fun k2 _ =>
  (idx p0 (↑k2:Int)).bind fun x22 =>
  (p1 x22).bind fun x30 =>
  if x30=true then
   esc (some (↑k2:Int))
  else
   some (.inl ())) ()) fun _ =>
 some (-1)
def wAR (p0:List wAB) (p1:(wAB->Option Bool)):Option (Bool) :=
 (wAU p0 p1).bind fun x1 =>
 some (decide (0 <= x1))
def wAK (p0:List wAB) (p1:Int):Option (Bool) :=
 (wAR p0 (fun x=>wAL x p1)).bind fun x2 =>
 some x2
def wBF:Option Bool:=some true
def wAo (p0:List Int) (p1:List Int) (p2:Int):Option (Bool) :=
 (wBM p0).bind fun x1 =>
 (wBM p1).bind fun x17 =>
 (wAH x1 2 8).bind fun (x33,x34) =>
 (mkz 8 2 (0:Int)).bind fun x55 =>
 jn (wEo 0 2 (fun k145 (l124,l128,l134,x137,x138,l139,x142,x143,l144) =>
  (app 8 l124 [(↑(k145 + 1):Int)]).bind fun x185 =>
  jn (wEo 0 x33 (fun k261 (l245,x248,x249,l250,x253,x254,l255,l256,x260) =>
   (wAH (⟨l245,x248,x249⟩:wAC) 300 700).bind fun (x295,x296) =>
   (app 8 l256 [w64 (x260 + x295)]).bind fun x315 =>
   (rem (↑k261:Int) 2).bind fun x323 =>
   (wAt (⟨l250,x253,x254⟩:wAC) 5).bind fun (x327,x328) =>
   (wBb x323 x327).bind fun (x350,x351) =>
   if x351=0 then
    if x350 < 0 then
     esc (esc (some false))
    else
     if 5 < x350 then
      esc (esc (some false))
     else
      if (↑k261:Int)=0 then
       (chk (↑k145:Int) l255.length).bind fun _ =>
       some (.inl (x296.bytes,x296.next,x296.state,x328.bytes,x328.next,x328.state,(nR l255 k145 x350),x315,w64 ((w64 (x260 + x295)) + (w64 (250 * x350)))))
      else
       some (.inl (x296.bytes,x296.next,x296.state,x328.bytes,x328.next,x328.state,l255,x315,w64 ((w64 (x260 + x295)) + (w64 (250 * x350)))))
   else
    esc (esc (some false))) (l134,x137,x138,l139,x142,x143,l144,[],0)) fun (y456,y457,y458,y459,y460,y461,y462,y463,y464) =>
  (app 24 l128 [y463]).bind fun x503 =>
  some (.inl (x185,x503,y456,y457,y458,y459,y460,y461,y462))) ([],[],x34.bytes,x34.next,x34.state,x17.bytes,x17.next,x17.state,x55)) fun (y546,y547,y548,y549,y550,y551,y552,y553,y554) =>
 (rem (w64 p2) 2).bind fun x579 =>
 ((wAY y547).bind fun x607 =>
 some (y547,x607)).bind fun (l589,l594) =>
 iter (fun (l726,x727) =>
  if x727 < x33 then
   (chk x579 l726.length).bind fun _ =>
   (chk x727 (gd l726 x579.toNat).length).bind fun _ =>
   (chk x579 y554.length).bind fun _ =>
   some (.inl ((nR l726 x579.toNat (nR (gd l726 x579.toNat) x727.toNat (w64 ((gd (gd l726 x579.toNat) x727.toNat) - (w64 (250 * (gd y554 x579.toNat))))))),w64 (x727 + 1)))
  else
   esc ((wBJ (⟨x33,y546,l589⟩:wAE)).bind fun (x786,x787) =>
   (wBJ (⟨x33,y546,l726⟩:wAE)).bind fun (x808,x809) =>
   if x787=0 then
    if x809=0 then
     (wAK x786 x579).bind fun x837 =>
     if x837=true then
      (wBF).bind fun x849 =>
      some x849
     else
      (wAK x808 x579).bind fun x867 =>
      if x867=true then
       some false
      else
       (wBF).bind fun x880 =>
       some x880
    else
     some false
   else
    some false)) big (l594,1)
end
end Go.Proofs.YtglpalgiipahjaaGreat
namespace Go.Proofs.YtglpalgiipahjaaGreat
open Go.KL
def cn (l:List Int) (t:Int):Nat:=l.countP fun x=>decide (x <= t)
theorem wHe (l:List Int) (t:Int):cn l t <= l.length:=List.countP_le_length
theorem wLu (l:List Int) {s t:Int} (h:s <= t):cn l s <= cn l t:=List.countP_mono_left fun x _ hx=>by simp at hx ⊢;omega
theorem wHf:∀ {l:List Int} {t:Int} {k:Nat},l.Pairwise (· < ·)->k < l.length->(k < cn l t ↔ gd l k <= t)
 | [],t,k,_,hk=>by simp at hk
 | a :: l,t,0,h,_=>by
  show 0 < cn (a :: l) t ↔ a <= t
  unfold cn
  rw [nW]
  by_cases c:a <= t
  ·simp [c]
  ·simp only [c,decide_false,nw,if_false,Nat.add_zero,iff_false]
   have:l.countP (fun x=>decide (x <= t))=0:=nZ.2 fun x hx=>by
    have:=(na.1 h).1 x hx
    simp;omega
   omega
 | a :: l,t,k + 1,h,hk=>by
  show k + 1 < cn (a :: l) t ↔ gd l k <= t
  have hk':k < l.length:=by simpa using hk
  have ih:=wHf (t:=t) (na.1 h).2 hk'
  rw [<- ih]
  unfold cn
  rw [nW]
  by_cases c:a <= t
  ·simp [c]
  ·have h1:l.countP (fun x=>decide (x <= t))=0:=nZ.2 fun x hx=>by
    have:=(na.1 h).1 x hx
    simp;omega
   simp [c,h1]
theorem wOk {l:List Int} (h:l.Pairwise (· < ·)) {k:Nat} (hk:k < l.length):cn l (gd l k)=k + 1:=by
 have h1:=(wHf (t:=gd l k) h hk).2 (nH _)
 have h2:=wHe l (gd l k)
 by_cases e:k + 1=l.length
 ·omega
 ·have h3:=mt (wHf (t:=gd l k) (k:=k + 1) h (by omega)).1
  have h4:gd l k < gd l (k + 1):=by
   have:=nB.1 h k (k + 1) hk (by omega) (by omega)
   rwa [<- wBg hk,<- wBg (by omega)] at this
  have:=h3 (by omega)
  omega
theorem wQD {l:List Int} (h:l.Pairwise (· < ·)) {t:Int} (ht:t ∈ l):0 < cn l t/\cn l t <= l.length/\gd l (cn l t - 1)=t:=by
 obtain ⟨k,hk,e⟩:=nD ht
 have e':gd l k=t:=by rw [wBg hk,e]
 have:=wOk h hk
 rw [e'] at this
 refine ⟨by omega,wHe _ _,?_⟩
 rw [this];exact e'
theorem wOl {l:List Int} (h:l.Pairwise (· < ·)) {s t:Int} (hst:s < t) (hno:∀ x ∈ l,s < x->t <= x) :
  cn l t=if cn l s < l.length/\gd l (cn l s)=t then cn l s + 1 else cn l s:=by
 have h0:=wHe l s
 have hm:=wLu l (show s <= t by omega)
 by_cases hl:cn l s < l.length
 ·have h1:s < gd l (cn l s):=by
   have:=mt (wHf (t:=s) h hl).2 (by omega)
   omega
  have h2:=hno _ (wAp hl) h1
  by_cases e:gd l (cn l s)=t
  ·rw [if_pos ⟨hl,e⟩]
   have:=wOk h hl
   rw [e] at this
   exact this
  ·rw [if_neg (fun c=>e c.2)]
   have:=mt (wHf (t:=t) h hl).1 (by omega)
   omega
 ·rw [if_neg (fun c=>hl c.1)]
  have:=wHe l t
  omega
def Lp (p:wAA) (d time:Int) (j:Nat):Prop:=j < p.done.length/\gd p.out j=false/\d + 2 <= gd p.done j/\gd (gd p.Race.Times j) ((gd p.done j) - 1).toNat=time
structure wHg (p:wAA):Prop where
 n:p.done.length <= 60
 o:p.out.length=p.done.length
 b:p.Race.Bibs.length=p.done.length
 t:p.Race.Times.length=p.done.length
 d0:∀ i,i < p.done.length->0 <= gd p.done i/\gd p.done i <= (gd p.Race.Times i).length
 len:∀ l ∈ p.Race.Times,l.length <= 1000
def ByP (p:wAA) (d time:Int) (n:Nat) (x:Int):Prop :=
 (x=-1/\∀ j,j < n->¬ Lp p d time j) \/ ∃ j:Nat,x=j/\j < n/\Lp p d time j/\∀ i,i < n->Lp p d time i->gd p.Race.Bibs j <= gd p.Race.Bibs i
theorem wCT {S:Type} {body:Nat->S->Option S} {n:Nat} {s0:S} (I:Nat->S->Prop) (hn:n <= 1000) (h0:I 0 s0) (h:∀ i s,i < n->I i s->∃ s',body i s=some s'/\I (i + 1) s'):∃ s,wBw 0 (n:Int) body s0=some s/\I n s:=by
 rw [wEk (by omega)]
 have:=wFp (body:=body) I n 0 s0 h0 fun i s _ h2 h3=>h i s (by omega) h3
 rwa [ny] at this
theorem wQE {p:wAA} (G:wHg p) (i d time:Int) (hd0:0 <= d) (hd1:d <= 1000):∃ x,wAf p i d time=some x/\ByP p d time p.done.length x:=by
 unfold wAf
 have hn:=G.n
 obtain ⟨x,e,hx⟩:=wCT (body:=fun (k10:Nat) (x9:Int) =>
  ((idx p.done (↑k10:Int)).bind fun x35 =>
  (idx p.out (↑k10:Int)).bind fun x46 =>
  if x46=true then
   some x9
  else
   if (w64 (d + 2)) <= x35 then
    (idx p.Race.Times (↑k10:Int)).bind fun x60 =>
    (idx x60 (w64 (x35 - 1))).bind fun x73 =>
    if x73=time then
     if x9 < 0 then
      some (↑k10:Int)
     else
      (idx p.Race.Bibs (↑k10:Int)).bind fun x92 =>
      (idx p.Race.Bibs x9).bind fun x100 =>
      if x92 < x100 then
       some (↑k10:Int)
      else
       some x9
    else
     some x9
   else
    some x9).bind fun x34 =>
  some x34) (n:=p.done.length) (s0:=(-1:Int)) (fun k x=>ByP p d time k x) (by omega) (.inl ⟨rfl,fun j hj=>by omega⟩) (fun k x hk hx=>by
   have hd:=G.d0 k hk
   have ho:=G.o
   have hb:=G.b
   have ht:=G.t
   have hll:=G.len _ (wAp (l:=p.Race.Times) (k:=k) (by omega))
   simp only [wOj]
   rw [wBX hk,nA,wBX (by omega),nA,wAa (by omega) (by omega)]
   have skip:¬ Lp p d time k->ByP p d time (k + 1) x:=fun hno=>by
    rcases hx with ⟨h1,h2⟩ | ⟨j,h1,h2,h3,h4⟩
    ·exact .inl ⟨h1,fun j hj=>by
      by_cases e:j=k
      ·exact e ▸ hno
      ·exact h2 j (by omega)⟩
    ·exact .inr ⟨j,h1,by omega,h3,fun i hi hL=>by
      by_cases e:i=k
      ·exact absurd (e ▸ hL) hno
      ·exact h4 i (by omega) hL⟩
   by_cases c1:gd p.out k=true
   ·rw [if_pos c1]
    exact ⟨x,rfl,skip fun h=>by have:=h.2.1;rw [c1] at this;exact nX this⟩
   rw [if_neg c1]
   by_cases c2:d + 2 <= gd p.done k
   ·have e1:(gd p.done k) - 1=((((gd p.done k) - 1).toNat:Nat):Int):=by omega
    rw [if_pos c2,wBX (by omega),nA,wAa (by omega) (by omega),e1,wBX (by omega),nA]
    by_cases c3:gd (gd p.Race.Times k) ((gd p.done k) - 1).toNat=time
    ·have hL:Lp p d time k:=⟨hk,by simpa using c1,c2,c3⟩
     rw [if_pos c3]
     rcases hx with ⟨h1,h2⟩ | ⟨j,h1,h2,h3,h4⟩
     ·rw [if_pos (by omega)]
      exact ⟨_,rfl,.inr ⟨k,rfl,by omega,hL,fun i hi hL'=>by
       by_cases e:i=k
       ·subst e;exact nH _
       ·exact absurd hL' (h2 i (by omega))⟩⟩
     ·subst h1
      rw [if_neg (by omega),wBX (by omega),nA,wBX (by omega),nA]
      by_cases c4:gd p.Race.Bibs k < gd p.Race.Bibs j
      ·rw [if_pos c4]
       exact ⟨_,rfl,.inr ⟨k,rfl,by omega,hL,fun i hi hL'=>by
        by_cases e:i=k
        ·subst e;exact nH _
        ·have:=h4 i (by omega) hL'
         omega⟩⟩
      ·rw [if_neg c4]
       exact ⟨_,rfl,.inr ⟨j,rfl,by omega,h3,fun i hi hL'=>by
        by_cases e:i=k
        ·subst e;omega
        ·exact h4 i (by omega) hL'⟩⟩
    ·rw [if_neg c3]
     exact ⟨x,rfl,skip fun h=>c3 h.2.2.2⟩
   ·rw [if_neg c2]
    exact ⟨x,rfl,skip fun h=>c2 h.2.2.1⟩)
 rw [e,nA]
 exact ⟨x,rfl,hx⟩
end Go.Proofs.YtglpalgiipahjaaGreat
namespace Go.Proofs.YtglpalgiipahjaaGreat
open Go.KL
def nx (p:wAA) (t:Int) (i:Nat):Int:=if gd p.out i=false/\gd p.done i < (gd p.Race.Times i).length/\gd (gd p.Race.Times i) (gd p.done i).toNat=t then gd p.done i + 1 else gd p.done i
def st1 (p0:wAA) (p1:Int):Nat->List Int->Option (List Int):=fun k10 l9 =>
  (idx p0.Race.Times (↑k10:Int)).bind fun x33 =>
  (chk (↑k10:Int) l9.length).bind fun _ =>
  (chk (↑k10:Int) p0.out.length).bind fun _ =>
  if (gd p0.out k10)=true then
   some l9
  else
   if (gd l9 k10) < (↑x33.length:Int) then
    (idx x33 (gd l9 k10)).bind fun x62 =>
    if x62=p1 then
     some (nR l9 k10 (w64 ((gd l9 k10) + 1)))
    else
     some l9
   else
    some l9
def st2 (p0:wAA) (p1:Int) (y15:List Int):Nat->List Int->Option (List Int):=fun k121 l117 =>
  (chk (↑k121:Int) y15.length).bind fun _ =>
  (chk (↑k121:Int) p0.out.length).bind fun _ =>
  if (gd p0.out k121)=true then
   some l117
  else
   (wAf (⟨p0.Race,y15,p0.out⟩:wAA) (↑k121:Int) (gd y15 k121) p1).bind fun x193 =>
   if 0 <= x193 then
    (app 8 l117 [(↑k121:Int)]).bind fun x222 =>
    some x222
   else
    some l117
theorem wId (p0:wAA) (p1:Int):wAg p0 p1=(wBw 0 (↑p0.Race.Times.length:Int) (st1 p0 p1) p0.done).bind fun y =>
 (wBw 0 (↑y.length:Int) (st2 p0 p1 y) []).bind fun z=>some (z,(⟨p0.Race,y,p0.out⟩:wAA)):=rfl
theorem wQF {p:wAA} (G:wHg p) (t:Int):∃ y,wBw 0 (↑p.Race.Times.length:Int) (st1 p t) p.done=some y/\y.length=p.done.length/\∀ i,i < p.done.length->gd y i=nx p t i:=by
 have hn:=G.n
 have ho:=G.o
 have ht:=G.t
 obtain ⟨y,e,h1,h2⟩:=wCT (body:=st1 p t) (n:=p.Race.Times.length) (s0:=p.done) (fun k y=>y.length=p.done.length/\∀ i,i < p.done.length->gd y i=if i < k then nx p t i else gd p.done i) (by omega) ⟨rfl,fun i _=>by rw [if_neg (by omega)]⟩ (fun k y hk ⟨h1,h2⟩=>by
  have hk':k < p.done.length:=by omega
  have hd:=G.d0 k hk'
  have hll:=G.len _ (wAp (l:=p.Race.Times) (k:=k) hk)
  have hyk:gd y k=gd p.done k:=by rw [h2 k hk',if_neg (by omega)]
  have keep:nx p t k=gd p.done k->∀ i,i < p.done.length->gd y i=if i < k + 1 then nx p t i else gd p.done i:=fun e i hi=>by
   rw [h2 i hi]
   by_cases c:i=k
   ·subst c
    rw [if_neg (by omega),if_pos (by omega),e]
   ·by_cases c2:i < k
    ·rw [if_pos c2,if_pos (by omega)]
    ·rw [if_neg c2,if_neg (by omega)]
  unfold st1
  rw [wBX hk,nA,wCW (by omega) (by omega),nA,wCW (by omega) (by omega),nA,hyk]
  by_cases c1:gd p.out k=true
  ·rw [if_pos c1]
   exact ⟨y,rfl,h1,keep (if_neg (fun h=>by rw [c1] at h;exact nX h.1))⟩
  have c1':gd p.out k=false:=by simpa using c1
  rw [if_neg c1]
  by_cases c2:gd p.done k < ((gd p.Race.Times k).length:Int)
  ·have e1:idx (gd p.Race.Times k) (gd p.done k)=some (gd (gd p.Race.Times k) (gd p.done k).toNat):=by
    unfold idx
    rw [if_pos hd.1,wBh (by omega)]
   rw [if_pos c2,e1,nA]
   by_cases c3:gd (gd p.Race.Times k) (gd p.done k).toNat=t
   ·have en:nx p t k=gd p.done k + 1:=if_pos ⟨c1',c2,c3⟩
    rw [if_pos c3,wAa (by omega) (by omega)]
    refine ⟨_,rfl,by simpa using h1,fun i hi=>?_⟩
    rw [wEv (by omega) (by omega)]
    by_cases c:i=k
    ·subst c
     rw [if_pos rfl,if_pos (by omega),en]
    ·rw [if_neg c,h2 i hi]
     by_cases c4:i < k
     ·rw [if_pos c4,if_pos (by omega)]
     ·rw [if_neg c4,if_neg (by omega)]
   ·rw [if_neg c3]
    exact ⟨y,rfl,h1,keep (if_neg (fun h=>c3 h.2.2))⟩
  ·rw [if_neg c2]
   exact ⟨y,rfl,h1,keep (if_neg (fun h=>c2 h.2.1))⟩)
 exact ⟨y,e,h1,fun i hi=>by rw [h2 i hi,if_pos (by omega)]⟩
theorem nx_le {p:wAA} (G:wHg p) (t:Int) {i:Nat} (hi:i < p.done.length):0 <= nx p t i/\nx p t i <= (gd p.Race.Times i).length:=by
 have:=G.d0 i hi
 unfold nx
 split <;> omega
theorem wOm {p:wAA} (G:wHg p) (t:Int):∃ z y,wAg p t=some (z,(⟨p.Race,y,p.out⟩:wAA))/\y.length=p.done.length/\(∀ i,i < p.done.length->gd y i=nx p t i)/\wHg (⟨p.Race,y,p.out⟩:wAA) /\
  z.Pairwise (· < ·)/\∀ x,x ∈ z ↔ ∃ i:Nat,x=i/\i < p.done.length/\gd p.out i=false/\∃ j,Lp (⟨p.Race,y,p.out⟩:wAA) (gd y i) t j:=by
 rw [wId]
 have hn:=G.n
 obtain ⟨y,e,h1,h2⟩:=wQF G t
 rw [e,nA]
 have G':wHg (⟨p.Race,y,p.out⟩:wAA):=⟨by show y.length <= 60;omega,by show p.out.length=y.length;rw [h1];exact G.o,by show p.Race.Bibs.length=y.length;rw [h1];exact G.b,by show p.Race.Times.length=y.length;rw [h1];exact G.t,fun i hi=>by
  have hi':i < p.done.length:=by rw [<- h1];exact hi
  show 0 <= gd y i/\gd y i <= _
  rw [h2 i hi']
  exact nx_le G t hi',G.len⟩
 obtain ⟨z,ez,z1,z2⟩:=wCT (body:=st2 p t y) (n:=y.length) (s0:=[]) (fun k z=>z.Pairwise (· < ·)/\∀ x,x ∈ z ↔ ∃ i:Nat,x=i/\i < k/\gd p.out i=false/\∃ j,Lp (⟨p.Race,y,p.out⟩:wAA) (gd y i) t j) (by omega) ⟨List.Pairwise.nil,fun x=>by simp⟩ (fun k z hk ⟨z1,z2⟩=>by
  have hk':k < p.done.length:=by omega
  have ho:=G.o
  have hyk:=G'.d0 k hk
  have hll:=G.len _ (wAp (l:=p.Race.Times) (k:=k) (by have:=G.t;omega))
  have hzl:z.length <= k:=by
   have hsub:∀ x ∈ z,0 <= x/\x < k:=fun x hx=>by
    obtain ⟨i,rfl,hi,_⟩:=(z2 x).1 hx
    omega
   rcases nh k z.length with c | c
   ·exfalso
    have key:∀ (m:Nat),m < z.length->(m:Int) <= gd z m:=by
     intro m
     induction m with
     | zero=>intro hm;exact (hsub _ (wAp hm)).1
     | succ m ih =>
      intro hm
      have h3:=ih (by omega)
      have h4:=nB.1 z1 m (m + 1) (by omega) hm (by omega)
      rw [<- wBg (by omega),<- wBg hm] at h4
      omega
    have h5:=key k c
    have h6:=(hsub _ (wAp c)).2
    omega
   ·exact c
  have skip:¬ (gd p.out k=false/\∃ j,Lp (⟨p.Race,y,p.out⟩:wAA) (gd y k) t j)->∀ x,x ∈ z ↔ ∃ i:Nat,x=i/\i < k + 1/\gd p.out i=false/\∃ j,Lp (⟨p.Race,y,p.out⟩:wAA) (gd y i) t j:=fun hno x=>by
   rw [z2]
   constructor
   ·rintro ⟨i,h1,h2,h3⟩
    exact ⟨i,h1,by omega,h3⟩
   ·rintro ⟨i,h1,h2,h3⟩
    by_cases c:i=k
    ·exact absurd (c ▸ h3) hno
    ·exact ⟨i,h1,by omega,h3⟩
  unfold st2
  rw [wCW (by omega) (by omega),nA,wCW (by omega) (by omega),nA]
  by_cases c1:gd p.out k=true
  ·rw [if_pos c1]
   exact ⟨z,rfl,z1,skip (fun h=>by have:=h.1;rw [c1] at this;exact nX this)⟩
  have c1':gd p.out k=false:=by simpa using c1
  obtain ⟨x,ex,hx⟩:=wQE G' (k:Int) (gd y k) t hyk.1 (by
   have:=hyk.2
   simp only at this
   omega)
  rw [if_neg c1,ex,nA]
  rcases hx with ⟨h3,h4⟩ | ⟨j,h3,h4,h5,_⟩
  ·rw [if_neg (by omega)]
   exact ⟨z,rfl,z1,skip (fun h=>by obtain ⟨_,j,hj⟩:=h;exact h4 j hj.1 hj)⟩
  ·rw [if_pos (by omega),wEX (by simp;omega),nA]
   refine ⟨_,rfl,?_,fun x=>?_⟩
   ·rw [nt]
    refine ⟨z1,nl _ _,fun a ha b hb=>?_⟩
    obtain ⟨i,rfl,hi,_⟩:=(z2 a).1 ha
    have:=nG.1 hb
    omega
   ·rw [nI,z2,nG]
    constructor
    ·rintro (⟨i,h1,h2,h3⟩ | h)
     ·exact ⟨i,h1,by omega,h3⟩
     ·exact ⟨k,h,by omega,c1',j,h5⟩
    ·rintro ⟨i,h1,h2,h3⟩
     by_cases c:i=k
     ·exact .inr (by rw [h1,c])
     ·exact .inl ⟨i,h1,by omega,h3⟩)
 rw [ez,nA]
 refine ⟨z,y,rfl,h1,h2,G',z1,fun x=>?_⟩
 rw [z2,h1]
end Go.Proofs.YtglpalgiipahjaaGreat
namespace Go.Proofs.YtglpalgiipahjaaGreat
open Go.KL
def rA (p:wAA) (z:List Int) (t:Int) (k1191:Nat) (l1188:List wAB):Option (List wAB) :=
      (chk (↑k1191:Int) z.length).bind fun _ =>
      (idx p.Race.Bibs (gd z k1191)).bind fun x1222 =>
      (chk (gd z k1191) p.done.length).bind fun _ =>
      (wAf p (gd z k1191) (gd p.done (gd z k1191).toNat) t).bind fun x1264 =>
      (idx p.Race.Bibs x1264).bind fun x1286 =>
      (app 32 l1188 [(⟨x1222,(gd p.done (gd z k1191).toNat),t,x1286⟩:wAB)]).bind fun x1299 =>
      some x1299
def rO (z:List Int) (k1338:Nat) (l1337:List Bool):Option (List Bool) :=
      (chk (↑k1338:Int) z.length).bind fun _ =>
      (chk (gd z k1338) l1337.length).bind fun _ =>
      some (nR l1337 (gd z k1338).toNat true)
abbrev RS:=(List wAB) × Int × (List Int) × (List (List Int)) × (List Int) × (List Bool)
def rB:RS->Int->Option (RS ⊕ Empty)
 | (l1081,x1085,l1086,l1089,l1092,l1095),x1124 =>
  (wAg (⟨(⟨x1085,l1086,l1089⟩:wAE),l1092,l1095⟩:wAA) x1124).bind fun (x1150,x1151) =>
  (wBw 0 (↑x1150.length:Int) (rA x1151 x1150 x1124) l1081).bind fun y1196 =>
  (wBw 0 (↑x1150.length:Int) (rO x1150) x1151.out).bind fun y1343 =>
  some (.inl (y1196,x1151.Race.Laps,x1151.Race.Bibs,x1151.Race.Times,x1151.done,y1343))
theorem wJl (p0:wAE):wCF p0=((mkz 8 (↑p0.Bibs.length:Int) (0:Int)).bind fun x18 =>
 (mkz 1 (↑p0.Bibs.length:Int) false).bind fun x26 =>
 some (x18,x26)).bind fun (l9,l12) =>
 (wBB p0).bind fun x520 =>
 (wAZ (S:=RS) (E:=Empty) rB ([],p0.Laps,p0.Bibs,p0.Times,l9,l12) x520).bind fun rr1118 =>
 match rr1118 with
 | .inl (y1416,y1417,y1418,y1419,y1420,y1421) =>
  (wAV y1416 (fun x=>wAb x.1 x.2)).bind fun x1438 =>
  some ((⟨(⟨y1417,y1418,y1419⟩:wAE),y1420,y1421⟩:wAA),x1438)
 | .inr e1432 =>
  e1432.elim:=rfl
theorem wLv {S:Type} {f:S->Int->Option (S ⊕ Empty)} {L:List Int} (I:Nat->S->Prop) {s0:S} (hL:L.length <= 1000000) (h0:I 0 s0) (h:∀ k s,k < L.length->I k s->∃ s',f s (gd L k)=some (.inl s')/\I (k + 1) s'):∃ s',wAZ f s0 L=some (.inl s')/\I L.length s':=by
 unfold wAZ
 rw [wCe (by omega)]
 have key:∀ body:Nat->S->Option (S ⊕ (S ⊕ Empty)),(∀ k s,k < L.length->I k s->∃ s',body k s=some (.inl s')/\I (k + 1) s')->∃ s',jn (forN body L.length 0 s0) (fun y:S=>some (Sum.inl y:S ⊕ Empty))=some (.inl s')/\I L.length s':=by
  intro body hb
  rcases wFG (body:=body) I (fun _=>False) L.length 0 s0 h0 (fun k s _ hk hI=>.inl (hb k s (by omega) hI)) with ⟨s',e,hs⟩ | ⟨_,_,h⟩
  ·rw [ny] at hs
   exact ⟨s',by rw [e];rfl,hs⟩
  ·exact h.elim
 refine key _ fun k s hk hI=>?_
 obtain ⟨s',e,hs⟩:=h k s hk hI
 refine ⟨s',?_,hs⟩
 rw [wBX hk,nA,e];rfl
structure wJm (r:wAE):Prop where
 n:r.Bibs.length <= 60
 t:r.Times.length=r.Bibs.length
 len:∀ l ∈ r.Times,l.length <= 20
 inc:∀ l ∈ r.Times,l.Pairwise (· < ·)
 pos:∀ l ∈ r.Times,∀ x ∈ l,0 <= x/\x <= 360000
 one:r.Bibs.Nodup
def nbf (τ:Nat->Option Int) (i:Nat) (t:Int):Prop:=∀ s,τ i=some s->t <= s
def lap (r:wAE) (τ:Nat->Option Int) (i:Nat) (t:Int) (j:Nat):Prop :=
 j < r.Bibs.length/\nbf τ j t/\t ∈ gd r.Times j/\cn (gd r.Times i) t + 2 <= cn (gd r.Times j) t
structure Exact (r:wAE) (ts:List Int) (τ:Nat->Option Int):Prop where
 in_:∀ i s,i < r.Bibs.length->τ i=some s->s ∈ ts
 iff:∀ i,i < r.Bibs.length->∀ t ∈ ts,nbf τ i t->(τ i=some t ↔ ∃ j,lap r τ i t j)
structure Ent (r:wAE) (τ:Nat->Option Int) (i:Nat) (o:wAB):Prop where
 bib:o.Bib=gd r.Bibs i
 time:τ i=some o.Time
 done:o.Done=cn (gd r.Times i) o.Time
 by_:∃ j,o.By=gd r.Bibs j/\lap r τ i o.Time j/\∀ k,lap r τ i o.Time k->gd r.Bibs j <= gd r.Bibs k
structure Ents (r:wAE) (τ:Nat->Option Int) (a:List wAB):Prop where
 of:∀ o ∈ a,∃ i,i < r.Bibs.length/\Ent r τ i o
 all:∀ i,i < r.Bibs.length->τ i ≠ none->∃ o ∈ a,o.Bib=gd r.Bibs i
 one:(a.map (·.Bib)).Nodup
def wEl (L:List Int) (k:Nat):Int:=if k=0 then -1 else gd L (k - 1)
structure RInv (r:wAE) (L:List Int) (k:Nat) (s:RS):Prop where
 laps:s.2.1=r.Laps
 bibs:s.2.2.1=r.Bibs
 times:s.2.2.2.1=r.Times
 dl:s.2.2.2.2.1.length=r.Bibs.length
 ol:s.2.2.2.2.2.length=r.Bibs.length
 al:s.1.length <= 60 * k
 tau:∃ τ,(∀ i,i < r.Bibs.length->gd s.2.2.2.2.2 i=(τ i).isSome)/\(∀ i,i < r.Bibs.length->gd s.2.2.2.2.1 i=cn (gd r.Times i) ((τ i).getD (wEl L k)))/\Exact r (L.take k) τ/\Ents r τ s.1
theorem wJI {r:wAE} (G:wJm r) {i j:Nat} (hi:i < r.Bibs.length) (hj:j < r.Bibs.length) (e:gd r.Bibs i=gd r.Bibs j):i=j:=by
 have pw:=nB.1 (nK.1 G.one)
 rw [wBg hi,wBg hj] at e
 rcases Nat.lt_trichotomy i j with c | c | c
 ·exact absurd e (pw i j hi hj c)
 ·exact c
 ·exact absurd e.symm (pw j i hj hi c)
theorem wIe {τ τ':Nat->Option Int} {t u:Int} {z:Nat->Prop} (h1:∀ i,z i->τ' i=some t/\τ i=none) (h2:∀ i,¬ z i->τ' i=τ i) (hu:u <= t) (i:Nat):nbf τ' i u ↔ nbf τ i u:=by
 by_cases c:z i
 ·obtain ⟨a,b⟩:=h1 i c
  unfold nbf
  constructor
  ·intro _ s hs;rw [b] at hs;cases hs
  ·intro _ s hs;rw [a] at hs;cases hs;exact hu
 ·unfold nbf;rw [h2 i c]
theorem wEm {r:wAE} {τ τ':Nat->Option Int} {t u:Int} {z:Nat->Prop} (h1:∀ i,z i->τ' i=some t/\τ i=none) (h2:∀ i,¬ z i->τ' i=τ i) (hu:u <= t) (i j:Nat):lap r τ' i u j ↔ lap r τ i u j:=by
 unfold lap
 rw [wIe h1 h2 hu]
theorem rA_is {r:wAE} (G:wJm r) {τ:Nat->Option Int} {p:wAA} (hp:wHg p) (hr:p.Race=r) {t:Int} {z:List Int} (hz:∀ x ∈ z,∃ i:Nat,x=i/\i < r.Bibs.length/\(∃ j,Lp p (gd p.done i) t j))
  (hL:∀ i j,i < r.Bibs.length->gd p.out i=false->(Lp p (gd p.done i) t j ↔ lap r τ i t j)) (ho:∀ x ∈ z,∀ i:Nat,x=i->gd p.out i=false) (hd:∀ i,i < r.Bibs.length->gd p.out i=false->gd p.done i=cn (gd r.Times i) t)
  (hzl:z.length <= 60) {a:List wAB} (ha:a.length <= 100000):∃ e,wBw 0 (↑z.length:Int) (rA p z t) a=some (a ++ e)/\e.length=z.length/\∀ q,q < z.length->(gd e q).Bib=gd r.Bibs (gd z q).toNat/\(gd e q).Time=t/\(gd e q).Done=cn (gd r.Times (gd z q).toNat) t/\∃ j,(gd e q).By=gd r.Bibs j/\lap r τ (gd z q).toNat t j/\∀ k,lap r τ (gd z q).toNat t k->gd r.Bibs j <= gd r.Bibs k:=by
 have hb:=hp.b
 obtain ⟨s,e,es,h1,h2,h3⟩:=wCT (body:=rA p z t) (n:=z.length) (s0:=a) (fun k s=>∃ e,s=a ++ e/\e.length=k/\∀ q,q < k->(gd e q).Bib=gd r.Bibs (gd z q).toNat/\(gd e q).Time=t/\(gd e q).Done=cn (gd r.Times (gd z q).toNat) t/\∃ j,(gd e q).By=gd r.Bibs j/\lap r τ (gd z q).toNat t j/\∀ k,lap r τ (gd z q).toNat t k->gd r.Bibs j <= gd r.Bibs k) (by omega) ⟨[],by simp,rfl,fun q hq=>by omega⟩ (fun k s hk ⟨e,hs,h2,h3⟩=>by
  obtain ⟨i,hi,hi2,j0,hj0⟩:=hz _ (wAp hk)
  have hout:=ho _ (wAp hk) i hi
  have hpd:=hp.d0 i (by rw [<- hb,hr];exact hi2)
  have hll:=hp.len _ (wAp (l:=p.Race.Times) (k:=i) (by have:=hp.t;rw [this,<- hb,hr];exact hi2))
  have hdn:=hd i hi2 hout
  rw [hr] at hb
  unfold rA
  rw [wCW (by omega) (by omega),nA,hi,hr,wBX hi2,nA,wCW (by omega) (by omega),nA,nE]
  obtain ⟨x,ex,hx⟩:=wQE hp (i:Int) (gd p.done i) t hpd.1 (by omega)
  rw [ex,nA]
  rcases hx with ⟨_,h5⟩ | ⟨j,h4,h5,h6,h7⟩
  ·exact absurd hj0 (h5 j0 hj0.1)
  ·subst h4
   have hj:j < r.Bibs.length:=by rw [hb];exact h5
   rw [wBX hj,nA,wEX (by rw [hs];simp;omega),nA]
   refine ⟨_,rfl,e ++ [⟨gd r.Bibs i,gd p.done i,t,gd r.Bibs j⟩],by rw [hs,List.append_assoc],by simp [h2],fun q hq=>?_⟩
   by_cases c:q=k
   ·subst c
    have eg:gd (e ++ [(⟨gd r.Bibs i,gd p.done i,t,gd r.Bibs j⟩:wAB)]) q=⟨gd r.Bibs i,gd p.done i,t,gd r.Bibs j⟩:=by rw [<- h2,wFH]
    rw [eg,hi,nE]
    refine ⟨rfl,rfl,hdn,j,rfl,(hL i j hi2 hout).1 h6,fun k hk=>?_⟩
    have hk2:=(hL i k hi2 hout).2 hk
    rw [hr] at h7
    exact h7 k hk2.1 hk2
   ·rw [wCR (by omega)]
    exact h3 q (by omega))
 exact ⟨es,by rw [e,h1],h2,h3⟩
theorem rO_is {z:List Int} {n:Nat} (hz:∀ x ∈ z,0 <= x/\x < n) (hzl:z.length <= 60) {o:List Bool} (ho:o.length=n):∃ o',wBw 0 (↑z.length:Int) (rO z) o=some o'/\o'.length=n/\∀ i:Nat,i < n->gd o' i=if (i:Int) ∈ z then true else gd o i:=by
 obtain ⟨o',e,h1,h2⟩:=wCT (body:=rO z) (n:=z.length) (s0:=o) (fun k o'=>o'.length=n/\∀ i:Nat,i < n->gd o' i=if (i:Int) ∈ z.take k then true else gd o i) (by omega) ⟨ho,fun i _=>by simp⟩ (fun k s hk ⟨h1,h2⟩=>by
  have hr:=hz _ (wAp hk)
  unfold rO
  rw [wCW (by omega) (by omega),nA,wCW (by omega) (by omega),nA]
  refine ⟨_,rfl,by simpa using h1,fun i hi=>?_⟩
  rw [wEv (by omega) (by omega),h2 i hi,wFs hk]
  by_cases c:i=(gd z k).toNat
  ·rw [if_pos c,if_pos (by rw [nI,nG];right;omega)]
  ·rw [if_neg c]
   have:((i:Int) ∈ z.take k ++ [gd z k]) ↔ (i:Int) ∈ z.take k:=by
    rw [nI,nG]
    exact ⟨fun h=>h.elim id fun h=>absurd h (by omega),.inl⟩
   simp only [this])
 exact ⟨o',e,h1,fun i hi=>by rw [h2 i hi,nL]⟩
end Go.Proofs.YtglpalgiipahjaaGreat
namespace Go.Proofs.YtglpalgiipahjaaGreat
open Go.KL
structure Times (r:wAE) (L:List Int):Prop where
 inc:L.Pairwise (· < ·)
 all:∀ x,x ∈ L ↔ ∃ l ∈ r.Times,x ∈ l
 len:L.length <= 1200
theorem wOn {L:List Int} (hL:L.Pairwise (· < ·)) (h0:∀ x ∈ L,0 <= x) {k:Nat} (hk:k < L.length):wEl L k < gd L k/\(∀ x ∈ L.take k,x <= wEl L k/\x < gd L k)/\∀ x ∈ L,wEl L k < x->gd L k <= x:=by
 have mono:∀ i j,i < j->j < L.length->gd L i < gd L j:=fun i j hij hj=>by
  have:=nB.1 hL i j (by omega) hj hij
  rwa [<- wBg (by omega),<- wBg hj] at this
 have le:∀ i j,i <= j->j < L.length->gd L i <= gd L j:=fun i j hij hj=>by
  by_cases e:i=j
  ·subst e;exact nH _
  ·exact ni (mono i j (by omega) hj)
 unfold wEl
 refine ⟨?_,fun x hx=>?_,fun x hx hlt=>?_⟩
 ·split
  ·have:=h0 _ (wAp hk);omega
  ·exact mono _ _ (by omega) hk
 ·obtain ⟨i,hi,e⟩:=nD hx
  rw [List.length_take] at hi
  rw [List.getElem_take,<- wBg (by omega)] at e
  subst e
  rw [if_neg (by omega)]
  exact ⟨le _ _ (by omega) (by omega),mono _ _ (by omega) hk⟩
 ·obtain ⟨i,hi,e⟩:=nD hx
  rw [<- wBg hi] at e
  subst e
  rcases nh i k with c | c
  ·exfalso
   rw [if_neg (by omega)] at hlt
   have:=le i (k - 1) (by omega) (by omega)
   omega
  ·exact le _ _ c hi
theorem wMn {r:wAE} (G:wJm r) {L:List Int} (hT:Times r L) {k:Nat} (hk:k < L.length) {s:RS} (I:RInv r L k s):∃ s',rB s (gd L k)=some (.inl s')/\RInv r L (k + 1) s':=by
 obtain ⟨A,laps,bibs,times,done,out⟩:=s
 obtain ⟨e1,e2,e3,dl,ol,al,τ,to,td,tx,te⟩:=I
 simp only at e1 e2 e3 dl ol al to td te
 subst e1 e2 e3
 have hn:=G.n
 have hrt:=G.t
 have hpos:∀ x ∈ L,0 <= x:=fun x hx=>by
  obtain ⟨l,hl,hx⟩:=(hT.all x).1 hx
  exact (G.pos l hl x hx).1
 obtain ⟨lt1,lt2,lt3⟩:=wOn hT.inc hpos hk
 have hkl:=hT.len
 generalize ht:gd L k=t at lt1 lt2 lt3 ⊢
 have tin:∀ i,i < r.Bibs.length->gd r.Times i ∈ r.Times:=fun i hi=>wAp (by omega)
 let p:wAA:=⟨r,done,out⟩
 have Gp:wHg p:=⟨by show done.length <= 60;omega,by show out.length=done.length;omega,by show r.Bibs.length=done.length;omega,by show r.Times.length=done.length;omega,fun i hi=>by
  have hi':i < r.Bibs.length:=by rw [<- dl];exact hi
  show 0 <= gd done i/\gd done i <= ((gd r.Times i).length:Int)
  rw [td i hi']
  have:=wHe (gd r.Times i) ((τ i).getD (wEl L k))
  omega,fun l hl=>by have:=G.len l hl;omega⟩
 obtain ⟨z,y,ez,yl,yn,Gy,zp,zi⟩:=wOm Gp t
 have yl':y.length=r.Bibs.length:=by rw [yl];exact dl
 have outN:∀ i,i < r.Bibs.length->(gd out i=false ↔ τ i=none):=fun i hi=>by
  rw [to i hi]
  cases τ i <;> simp
 have yv:∀ i,i < r.Bibs.length->gd y i=cn (gd r.Times i) ((τ i).getD t):=fun i hi=>by
  have h1:=yn i (by rw [dl];exact hi)
  rw [h1]
  unfold nx
  show (if gd out i=false/\gd done i < ((gd r.Times i).length:Int)/\gd (gd r.Times i) (gd done i).toNat=t then gd done i + 1 else gd done i)=_
  cases hτ:τ i with
  | some s =>
   have ho:gd out i=true:=by rw [to i hi,hτ];rfl
   rw [if_neg (fun h=>by rw [ho] at h;exact nX h.1),td i hi,hτ]
   rfl
  | none =>
   have ho:gd out i=false:=(outN i hi).2 hτ
   have hd:=td i hi
   rw [hτ] at hd
   simp only [nj] at hd ⊢
   rw [wOl (G.inc _ (tin i hi)) lt1 (fun x hx hlt=>lt3 x ((hT.all x).2 ⟨_,tin i hi,hx⟩) hlt),hd]
   by_cases c:cn (gd r.Times i) (wEl L k) < (gd r.Times i).length/\gd (gd r.Times i) (cn (gd r.Times i) (wEl L k))=t
   ·rw [if_pos c,if_pos ⟨ho,by omega,by rw [nE];exact c.2⟩]
    omega
   ·rw [if_neg c,if_neg (fun h=>c ⟨by omega,by have:=h.2.2;rwa [nE] at this⟩)]
 have nbN:∀ j,j < r.Bibs.length->(nbf τ j t ↔ τ j=none):=fun j hj=>by
  constructor
  ·intro h
   cases hτ:τ j with
   | none=>rfl
   | some s =>
    have h1:=h s hτ
    have h2:=lt2 s (tx.in_ j s hj hτ)
    omega
  ·intro h s hs;rw [h] at hs;cases hs
 have lapN:∀ i j,i < r.Bibs.length->gd out i=false->(Lp (⟨r,y,out⟩:wAA) (gd y i) t j ↔ lap r τ i t j):=fun i j hi ho=>by
  have yi:gd y i=cn (gd r.Times i) t:=by rw [yv i hi,(outN i hi).1 ho];rfl
  unfold Lp lap
  show (j < y.length/\gd out j=false/\gd y i + 2 <= gd y j/\gd (gd r.Times j) (gd y j - 1).toNat=t) ↔ _
  rw [yl']
  constructor
  ·rintro ⟨hj,h1,h2,h3⟩
   have hτ:=(outN j hj).1 h1
   have yj:gd y j=cn (gd r.Times j) t:=by rw [yv j hj,hτ];rfl
   rw [yi,yj] at h2
   rw [yj] at h3
   have hle:=wHe (gd r.Times j) t
   refine ⟨hj,(nbN j hj).2 hτ,?_,by omega⟩
   have hm:=wAp (l:=gd r.Times j) (k:=((cn (gd r.Times j) t:Nat) - 1:Int).toNat) (by omega)
   rwa [h3] at hm
  ·rintro ⟨hj,h1,h2,h3⟩
   have hτ:=(nbN j hj).1 h1
   have yj:gd y j=cn (gd r.Times j) t:=by rw [yv j hj,hτ];rfl
   obtain ⟨c1,c2,c3⟩:=wQD (G.inc _ (tin j hj)) h2
   refine ⟨hj,(outN j hj).2 hτ,by rw [yi,yj];omega,?_⟩
   rw [yj,show (((cn (gd r.Times j) t:Nat):Int) - 1).toNat=cn (gd r.Times j) t - 1 by omega]
   exact c3
 have zin:∀ x,x ∈ z ↔ ∃ i:Nat,x=i/\i < r.Bibs.length/\τ i=none/\∃ j,lap r τ i t j:=fun x=>by
  rw [zi]
  constructor
  ·rintro ⟨i,h1,h2,h3,j,h4⟩
   have hi:i < r.Bibs.length:=by rw [<- dl];exact h2
   exact ⟨i,h1,hi,(outN i hi).1 h3,j,(lapN i j hi h3).1 h4⟩
  ·rintro ⟨i,h1,hi,h3,j,h4⟩
   exact ⟨i,h1,by rw [<- dl] at hi;exact hi,(outN i hi).2 h3,j,(lapN i j hi ((outN i hi).2 h3)).2 h4⟩
 have zl:z.length <= 60:=by
  have key:∀ m,m < z.length->(m:Int) <= gd z m:=by
   intro m
   induction m with
   | zero =>
    intro hm
    obtain ⟨i,h1,_⟩:=(zin _).1 (wAp hm)
    omega
   | succ m ih =>
    intro hm
    have h3:=ih (by omega)
    have h4:=nB.1 zp m (m + 1) (by omega) hm (by omega)
    rw [<- wBg (by omega),<- wBg hm] at h4
    omega
  rcases nh 60 z.length with c | c
  ·have h5:=key 60 c
   obtain ⟨i,h1,h2,_⟩:=(zin _).1 (wAp c)
   omega
  ·exact c
 obtain ⟨E,eE,El,Ee⟩:=rA_is (τ:=τ) G (p:=⟨r,y,out⟩) Gy rfl (t:=t) (z:=z) (fun x hx=>by
   obtain ⟨i,h1,h2,h3,j,h4⟩:=(zin x).1 hx
   exact ⟨i,h1,h2,j,(lapN i j h2 ((outN i h2).2 h3)).2 h4⟩) lapN (fun x hx i hi=>by
   obtain ⟨i',h1,h2,h3,_⟩:=(zin x).1 hx
   have:i=i':=by omega
   subst this
   exact (outN i h2).2 h3) (fun i hi ho=>by
   show gd y i=_
   rw [yv i hi,(outN i hi).1 ho];rfl) zl (a:=A) (by omega)
 obtain ⟨o',eo,ol',oi⟩:=rO_is (n:=r.Bibs.length) (z:=z) (fun x hx=>by
  obtain ⟨i,h1,h2,_⟩:=(zin x).1 hx
  omega) zl (o:=out) ol
 have er:rB (A,r.Laps,r.Bibs,r.Times,done,out) t=some (.inl (A ++ E,r.Laps,r.Bibs,r.Times,y,o')):=by
  unfold rB
  simp only
  rw [show wAg (⟨(⟨r.Laps,r.Bibs,r.Times⟩:wAE),done,out⟩:wAA) t=some (z,(⟨r,y,out⟩:wAA)) from ez,nA]
  simp only
  rw [eE,nA,eo,nA]
 obtain ⟨τ',hτ1,hτ2⟩:∃ τ':Nat->Option Int,(∀ i:Nat,(i:Int) ∈ z->τ' i=some t)/\∀ i:Nat,¬ (i:Int) ∈ z->τ' i=τ i:=⟨fun i=>if (i:Int) ∈ z then some t else τ i,fun i hi=>if_pos hi,fun i hi=>if_neg hi⟩
 refine ⟨_,er,rfl,rfl,rfl,yl',ol',by simp only [nJ];omega,τ',fun i hi=>?_,fun i hi=>?_,?_,?_⟩
 ·simp only
  rw [oi i hi]
  by_cases c:(i:Int) ∈ z
  ·rw [if_pos c,hτ1 i c];rfl
  ·rw [if_neg c,hτ2 i c];exact to i hi
 ·simp only
  rw [yv i hi]
  have hl:wEl L (k + 1)=t:=by unfold wEl;rw [if_neg (by omega)];exact ht
  rw [hl]
  by_cases c:(i:Int) ∈ z
  ·rw [hτ1 i c]
   obtain ⟨i',h1,h2,h3,_⟩:=(zin _).1 c
   have:i=i':=by omega
   subst this
   rw [h3];rfl
  ·rw [hτ2 i c]
 ·
  have h1:∀ i:Nat,(i:Int) ∈ z->τ' i=some t/\τ i=none:=fun i hi=>by
   obtain ⟨i',h1,_,h3,_⟩:=(zin _).1 hi
   have:i=i':=by omega
   subst this
   exact ⟨hτ1 i hi,h3⟩
  have h2:∀ i:Nat,¬ (i:Int) ∈ z->τ' i=τ i:=hτ2
  have tk:∀ u,u ∈ L.take (k + 1) ↔ u ∈ L.take k \/ u=t:=fun u=>by rw [wFs hk,nI,nG,ht]
  refine ⟨fun i u hi hu=>?_,fun i hi u hu hnb=>?_⟩
  ·rw [tk]
   by_cases c:(i:Int) ∈ z
   ·have:=(h1 i c).1
    rw [this] at hu
    right
    exact (nO hu).symm
   ·rw [h2 i c] at hu
    exact .inl (tx.in_ i u hi hu)
  ·rcases (tk u).1 hu with hu | hu
   ·have hut:=(lt2 u hu).2
    rw [wIe (z:=fun i:Nat=>(i:Int) ∈ z) h1 h2 (ni hut)] at hnb
    have:=tx.iff i hi u hu hnb
    simp only [wEm (r:=r) (z:=fun i:Nat=>(i:Int) ∈ z) h1 h2 (ni hut)]
    rw [<- this]
    by_cases c:(i:Int) ∈ z
    ·rw [(h1 i c).1,(h1 i c).2]
     exact ⟨fun h=>by have:=nO h;omega,fun h=>by cases h⟩
    ·rw [h2 i c]
   ·subst hu
    rw [wIe (z:=fun i:Nat=>(i:Int) ∈ z) h1 h2 (nH _),nbN i hi] at hnb
    simp only [wEm (r:=r) (z:=fun i:Nat=>(i:Int) ∈ z) h1 h2 (nH _)]
    constructor
    ·intro h
     by_cases c:(i:Int) ∈ z
     ·obtain ⟨i',g1,_,_,g4⟩:=(zin _).1 c
      have:i=i':=by omega
      subst this
      exact g4
     ·rw [h2 i c,hnb] at h;cases h
    ·intro h
     exact (h1 i ((zin _).2 ⟨i,rfl,hi,hnb,h⟩)).1
 ·have h1:∀ i:Nat,(i:Int) ∈ z->τ' i=some t/\τ i=none:=fun i hi=>by
   obtain ⟨i',h1,_,h3,_⟩:=(zin _).1 hi
   have:i=i':=by omega
   subst this
   exact ⟨hτ1 i hi,h3⟩
  have h2:∀ i:Nat,¬ (i:Int) ∈ z->τ' i=τ i:=hτ2
  have hA:∀ o ∈ A,∃ i,i < r.Bibs.length/\Ent r τ i o/\¬ (i:Int) ∈ z/\o.Time <= t:=fun o ho=>by
   obtain ⟨i,hi,hE⟩:=te.of o ho
   refine ⟨i,hi,hE,fun c=>?_,ni (lt2 _ (tx.in_ i _ hi hE.time)).2⟩
   have:=(h1 i c).2
   rw [hE.time] at this
   cases this
  have hE:∀ q,q < z.length->∃ i:Nat,gd z q=i/\i < r.Bibs.length/\τ i=none/\(i:Int) ∈ z:=fun q hq=>by
   obtain ⟨i,g1,g2,g3,_⟩:=(zin _).1 (wAp hq)
   exact ⟨i,g1,g2,g3,g1 ▸ wAp hq⟩
  refine ⟨fun o ho=>?_,fun i hi hτ=>?_,?_⟩
  ·rcases nI.1 ho with ho | ho
   ·obtain ⟨i,hi,he,hz,hot⟩:=hA o ho
    obtain ⟨j,j1,j2,j3⟩:=he.by_
    refine ⟨i,hi,he.bib,by rw [h2 i hz];exact he.time,he.done,j,j1,(wEm (z:=fun i:Nat=>(i:Int) ∈ z) h1 h2 hot i j).2 j2,fun q hq=>j3 q ((wEm (z:=fun i:Nat=>(i:Int) ∈ z) h1 h2 hot i q).1 hq)⟩
   ·obtain ⟨q,hq,eq⟩:=nD ho
    rw [<- wBg hq] at eq
    subst eq
    obtain ⟨i,g1,g2,_,g4⟩:=hE q (by omega)
    obtain ⟨b1,b2,b3,j,j1,j2,j3⟩:=Ee q (by omega)
    rw [g1,nE] at b1 b3 j2
    refine ⟨i,g2,b1,by rw [b2];exact (h1 i g4).1,by rw [b2];exact b3,j,j1,by rw [b2];exact (wEm (z:=fun i:Nat=>(i:Int) ∈ z) h1 h2 (nH _) i j).2 j2,fun q' hq'=>?_⟩
    rw [b2] at hq'
    have:=j3 q' (by rw [g1,nE];exact (wEm (z:=fun i:Nat=>(i:Int) ∈ z) h1 h2 (nH _) i q').1 hq')
    exact this
  ·by_cases c:(i:Int) ∈ z
   ·obtain ⟨q,hq,eq⟩:=nD c
    rw [<- wBg hq] at eq
    refine ⟨gd E q,List.mem_append_right _ (wAp (by omega)),?_⟩
    rw [(Ee q hq).1,eq,nE]
   ·rw [hτ2 i c] at hτ
    obtain ⟨o,ho,e⟩:=te.all i hi hτ
    exact ⟨o,List.mem_append_left _ ho,e⟩
  ·rw [nq,nz]
   refine ⟨te.one,?_,fun a ha b hb e=>?_⟩
   ·rw [nK,nB]
    intro a b ha hb hab e
    rw [List.length_map] at ha hb
    rw [nM,nM,<- wBg ha,<- wBg hb,(Ee a (by omega)).1,(Ee b (by omega)).1] at e
    obtain ⟨i,g1,g2,_⟩:=hE a (by omega)
    obtain ⟨j,g3,g4,_⟩:=hE b (by omega)
    rw [g1,g3,nE,nE] at e
    have:=wJI G g2 g4 e
    have h4:=nB.1 zp a b (by omega) (by omega) hab
    rw [<- wBg (by omega),<- wBg (by omega)] at h4
    omega
   ·obtain ⟨o,ho,e1⟩:=List.mem_map.1 ha
    obtain ⟨i,hi,he,hz,_⟩:=hA o ho
    obtain ⟨o2,ho2,e2⟩:=List.mem_map.1 hb
    obtain ⟨q,hq,eq⟩:=nD ho2
    rw [<- wBg hq] at eq
    subst eq
    obtain ⟨j,g3,g4,_,g5⟩:=hE q (by omega)
    rw [(Ee q (by omega)).1,g3,nE] at e2
    have:=wJI G hi g4 (by rw [<- he.bib,e1,e,e2])
    subst this
    exact hz g5
end Go.Proofs.YtglpalgiipahjaaGreat
namespace Go.Proofs.YtglpalgiipahjaaGreat
open Go.KL
theorem wGE {zs:List Int} (h:zs.Pairwise (· <= ·)):(Go.Lib.compact zs).Pairwise (· < ·)/\(∀ x,x ∈ Go.Lib.compact zs ↔ x ∈ zs)/\(Go.Lib.compact zs).length <= zs.length:=by
 have hg:∀ i,i < zs.length->(zs.toArray[i]!)=gd zs i:=fun i hi=>by
  rw [getElem!_pos zs.toArray i (by simpa using hi),wBg hi];simp
 have le:∀ i j,i <= j->j < zs.length->gd zs i <= gd zs j:=fun i j hij hj=>by
  by_cases e:i=j
  ·subst e;exact nH _
  ·have:=nB.1 h i j (by omega) hj (by omega)
   rwa [<- wBg (by omega),<- wBg hj] at this
 have key:∀ m,m <= zs.length->(Go.Lib.compactUpTo zs.toArray m).Pairwise (· < ·)/\(∀ x,x ∈ Go.Lib.compactUpTo zs.toArray m ↔ ∃ j,j < m/\gd zs j=x)/\(Go.Lib.compactUpTo zs.toArray m).length <= m:=by
  intro m
  induction m with
  | zero=>intro _;exact ⟨by simp [Go.Lib.compactUpTo],fun x=>by simp [Go.Lib.compactUpTo],by simp [Go.Lib.compactUpTo]⟩
  | succ m ih =>
   intro hm
   obtain ⟨h1,h2,h3⟩:=ih (by omega)
   rw [Go.Lib.compactUpTo_succ]
   by_cases c:Go.Lib.keeps zs.toArray m=true
   ·rw [if_pos c,hg m (by omega)]
    refine ⟨?_,fun x=>?_,by simp;omega⟩
    ·rw [nt]
     refine ⟨h1,nl _ _,fun a ha b hb=>?_⟩
     obtain ⟨j,hj,e⟩:=(h2 a).1 ha
     have hb':=nG.1 hb
     unfold Go.Lib.keeps at c
     simp only [decide_eq_true_iff] at c
     rcases c with c | c
     ·omega
     ·rw [hg m (by omega),hg (m - 1) (by omega)] at c
      have l1:=le j (m - 1) (by omega) (by omega)
      have l2:=le (m - 1) m (by omega) (by omega)
      omega
    ·rw [nI,nG,h2]
     constructor
     ·rintro (⟨j,hj,e⟩ | e)
      ·exact ⟨j,by omega,e⟩
      ·exact ⟨m,by omega,e.symm⟩
     ·rintro ⟨j,hj,e⟩
      by_cases ej:j=m
      ·subst ej;exact .inr e.symm
      ·exact .inl ⟨j,by omega,e⟩
   ·rw [if_neg c,List.append_nil]
    refine ⟨h1,fun x=>?_,by omega⟩
    have m0:m ≠ 0/\gd zs m=gd zs (m - 1):=by
     unfold Go.Lib.keeps at c
     simp only [decide_eq_true_iff,not_or,ne_eq,Decidable.not_not] at c
     have:=c.2
     rw [hg m (by omega),hg (m - 1) (by omega)] at this
     exact ⟨c.1,this⟩
    rw [h2]
    constructor
    ·rintro ⟨j,hj,e⟩
     exact ⟨j,by omega,e⟩
    ·rintro ⟨j,hj,e⟩
     by_cases ej:j=m
     ·subst ej;exact ⟨j - 1,by omega,by rw [<- m0.2];exact e⟩
     ·exact ⟨j,by omega,e⟩
 obtain ⟨h1,h2,h3⟩:=key zs.length (Nat.le_refl _)
 refine ⟨h1,fun x=>?_,h3⟩
 show x ∈ Go.Lib.compactUpTo zs.toArray zs.length ↔ _
 rw [h2]
 constructor
 ·rintro ⟨j,hj,e⟩
  exact e ▸ wAp hj
 ·intro hx
  obtain ⟨j,hj,e⟩:=nD hx
  exact ⟨j,hj,by rw [wBg hj];exact e⟩
theorem wJJ {T:List (List Int)} (hl:∀ l ∈ T,l.length <= 20):∀ k,(T.take k).flatten.length <= 20 * k:=by
 intro k
 induction k generalizing T with
 | zero=>simp
 | succ k ih =>
  cases T with
  | nil=>simp
  | cons a T =>
   rw [List.take_succ_cons,List.flatten_cons,nJ]
   have:=hl a (by simp)
   have:=ih (T:=T) fun l h=>hl l (by simp [h])
   omega
theorem wHh {T:List (List Int)} {k:Nat} (hk:k < T.length):(T.take (k + 1)).flatten=(T.take k).flatten ++ gd T k:=by
 rw [wFs hk,List.flatten_append];simp
theorem wLw {T:List (List Int)} (hn:T.length <= 60) (hl:∀ l ∈ T,l.length <= 20):wAn T=some T.flatten:=by
 unfold wAn
 have fl:=wJJ hl
 obtain ⟨x,ex,hx⟩:=wCT (body:=fun (k7:Nat) (x6:Int) =>
  (idx T (↑k7:Int)).bind fun x29 =>
  if (w64 (x6 + (↑x29.length:Int))) < 0 then
   none
  else
   some (w64 (x6 + (↑x29.length:Int)))) (n:=T.length) (s0:=(0:Int)) (fun k x=>x=((T.take k).flatten.length:Int)) (by omega) (by simp) (fun k x hk hx=>by
  have h1:=hl _ (wAp hk)
  have h2:=fl k
  rw [wBX hk,nA,hx,wAa (by omega) (by omega),if_neg (by omega)]
  exact ⟨_,rfl,by rw [wHh hk,nJ];omega⟩)
 have h60:=fl T.length
 rw [nL] at h60 hx
 have eg:wAz [] x=some []:=by
  unfold wAz
  rw [if_neg (by omega),wAa (by omega) (by omega)]
  by_cases c:0 < x - 0
  ·rw [if_pos c,appZ,if_pos (by omega)];rfl
  ·rw [if_neg c]
 have e2:=wHd (body:=fun (k86:Nat) (l83:List Int) =>
  (idx T (↑k86:Int)).bind fun x107 =>
  (app 8 l83 x107).bind fun x122 =>
  some x122) (n:=T.length) (s0:=[]) (fun k=>(T.take k).flatten) (by simp) (by omega) (fun i hi=>by
  have h1:=hl _ (wAp hi)
  have h2:=fl i
  rw [wBX hi,nA,wEX (by omega),nA,wHh hi])
 rw [nL] at e2
 rw [ex,nA,eg,nA,e2,nA]
theorem wMo {r:wAE} (G:wJm r):∃ L,wBB r=some L/\Times r L:=by
 unfold wBB
 have hn:=G.n
 have hl:=wJJ G.len r.Times.length
 rw [nL] at hl
 have ht:=G.t
 rw [wLw (by omega) G.len,nA]
 have e1:wBN r.Times.flatten=some (r.Times.flatten.mergeSort fun x y=>decide (x <= y)):=by
  unfold wBN wMR
  exact if_pos (by omega)
 rw [e1,nA]
 have hp:=nu r.Times.flatten fun x y=>decide (x <= y)
 have so:=np (le:=fun x y:Int=>decide (x <= y)) (fun a b c h1 h2=>by simp at h1 h2 ⊢;omega) (fun a b=>by simp;omega) r.Times.flatten
 have hlen:=hp.length_eq
 generalize r.Times.flatten.mergeSort (fun x y=>decide (x <= y))=M at hp so hlen
 obtain ⟨c1,c2,c3⟩:=wGE (zs:=M) (so.imp fun h=>by simpa using h)
 have e2:wBA M=some (Go.Lib.compact M):=by
  unfold wBA wEz
  exact if_pos (by omega)
 rw [e2,nA]
 unfold wBH
 refine ⟨_,rfl,c1,fun x=>?_,by omega⟩
 rw [c2,hp.mem_iff,List.mem_flatten]
def ltO (a b:wAB):Prop:=a.Time < b.Time \/ a.Time=b.Time/\a.Bib < b.Bib
instance (a b:wAB):Decidable (ltO a b):=by unfold ltO;exact inferInstance
theorem cmpO (a b:wAB):wAb a b=some (if a.Time < b.Time then -1 else if b.Time < a.Time then 1 else if a.Bib < b.Bib then -1 else if b.Bib < a.Bib then 1 else 0):=by
 have hc:∀ x y:Int,wBK x y=some (if x < y then -1 else if y < x then 1 else 0):=fun x y=>by
  unfold wBK wBi
  simp only [not_true_eq_false,decide_false,nA,nw,if_false]
  split
  ·rfl
  ·split <;> rfl
 have ho:∀ x y:Int,wCO [x,y]=some (if x=0 then y else x):=fun x y=>by
  unfold wCO
  rw [wCe (by simp)]
  show jn (forN _ 2 0 ()) _=_
  have i0:idx [x,y] ((0:Nat):Int)=some x:=rfl
  have i1:idx [x,y] ((0 + 1:Nat):Int)=some y:=rfl
  simp only [forN,i0,i1,nA]
  by_cases c:x=0
  ·simp only [if_pos c]
   by_cases d:y=0
   ·simp only [if_pos d,d];rfl
   ·simp only [if_neg d];rfl
  ·simp only [if_neg c];rfl
 unfold wAb
 rw [hc,nA,hc,nA,ho,nA]
 by_cases c1:a.Time < b.Time
 ·simp [c1]
 ·by_cases c2:b.Time < a.Time
  ·simp [c1,c2]
  ·simp only [c1,c2,if_false,if_true]
structure RunP (r:wAE) (D:List Int) (A:List wAB) (τ:Nat->Option Int):Prop where
 dl:D.length=r.Bibs.length
 done:∀ i,i < r.Bibs.length->(τ i=none/\gd D i=(gd r.Times i).length) \/ ∃ s,τ i=some s/\gd D i=cn (gd r.Times i) s
 ex:∀ i,i < r.Bibs.length->∀ j,j < r.Bibs.length->∀ t ∈ gd r.Times j,nbf τ i t->(τ i=some t ↔ ∃ k,lap r τ i t k)
 in_:∀ i s,i < r.Bibs.length->τ i=some s->∃ l ∈ r.Times,s ∈ l
 ents:Ents r τ A
 ord:A.Pairwise ltO
 al:A.length <= 100000
theorem wNT {r:wAE} (G:wJm r):∃ p A τ,wCF r=some (p,A)/\RunP r p.done A τ:=by
 rw [wJl]
 have hn:=G.n
 have ht:=G.t
 rw [mkz,if_pos (by omega),nA,mkz,if_pos (by omega),nA,nA]
 simp only
 obtain ⟨L,eL,hT⟩:=wMo G
 rw [eL,nA]
 have hpos:∀ x ∈ L,0 <= x:=fun x hx=>by
  obtain ⟨l,hl,hx⟩:=(hT.all x).1 hx
  exact (G.pos l hl x hx).1
 have hll:=hT.len
 obtain ⟨⟨A,laps,bibs,times,done,out⟩,e,I⟩:=wLv (f:=rB) (L:=L) (s0:=([],r.Laps,r.Bibs,r.Times,nP (r.Bibs.length:Int).toNat 0,nP (r.Bibs.length:Int).toNat false)) (RInv r L) (by omega) ⟨rfl,rfl,rfl,by simp,by simp,by simp,fun _=>none,fun i hi=>by rw [wBg (by simpa using hi)];simp,fun i hi=>by
   rw [wBg (by simpa using hi)]
   have:cn (gd r.Times i) (-1)=0:=nZ.2 fun x hx=>by
    have:=(G.pos _ (wAp (l:=r.Times) (k:=i) (by omega)) x hx).1
    simp;omega
   simp only [nj,wEl,if_true,this,List.getElem_replicate]
   rfl,⟨(fun i s _ h=>by cases h),(fun i _ t ht=>by rw [List.take_zero] at ht;cases ht)⟩,⟨(fun o ho=>by cases ho),(fun i _ h=>absurd rfl h),by simp⟩⟩ (fun k s hk I=>wMn G hT hk I)
 rw [e,nA]
 obtain ⟨e1,e2,e3,dl,ol,al,τ,to,td,tx,te⟩:=I
 simp only at e1 e2 e3 dl ol al to td te
 rw [nL] at tx
 simp only
 have lt:∀ a b:wAB,ltB (fun x:wAB × wAB=>wAb x.1 x.2) a b=decide (ltO a b):=fun a b=>by
  unfold ltB ltO
  simp only [cmpO]
  by_cases c1:a.Time < b.Time
  ·simp [c1]
  ·by_cases c2:b.Time < a.Time
   ·simp [c1,c2];omega
   ·have c3:a.Time=b.Time:=by omega
    by_cases c4:a.Bib < b.Bib
    ·simp [c3,c4]
    ·by_cases c5:b.Bib < a.Bib <;> simp [c3,c4,c5]
 have one:∀ x ∈ A,∀ y ∈ A,x.Bib=y.Bib->x=y:=fun x hx y hy e=>by
  obtain ⟨i,hi,ei⟩:=nD hx
  obtain ⟨j,hj,ej⟩:=nD hy
  have pw:=nB.1 (nK.1 te.one)
  rcases Nat.lt_trichotomy i j with c | c | c
  ·have:=pw i j (by simpa using hi) (by simpa using hj) c
   rw [nM,nM,ei,ej] at this
   exact absurd e this
  ·subst c;rw [<- ei,<- ej]
  ·have:=pw j i (by simpa using hj) (by simpa using hi) c
   rw [nM,nM,ei,ej] at this
   exact absurd e.symm this
 have C:Cmp (fun x:wAB × wAB=>wAb x.1 x.2) A:=by
  refine ⟨by omega,fun x _ y _=>by show (wAb x y).isSome=true;rw [cmpO];rfl,fun x _=>by rw [lt];simp [ltO],fun x _ y _ w _ a b=>?_,fun x _ y _ w _ a b=>?_,fun x hx y hy a b=>?_⟩
  ·rw [lt] at a b ⊢
   simp only [decide_eq_true_iff] at a b ⊢
   simp only [ltO] at a b ⊢
   omega
  ·rw [lt] at a b ⊢
   simp only [decide_eq_false_iff_not] at a b ⊢
   simp only [ltO] at a b ⊢
   omega
  ·rw [lt] at a b
   simp only [decide_eq_false_iff_not] at a b
   simp only [ltO] at a b
   exact one x hx y hy (by omega)
 unfold wAV
 rw [wMS C,nA]
 have hp:=nu A fun x y=>!ltB (fun x:wAB × wAB=>wAb x.1 x.2) y x
 have so:=np (le:=fun x y:wAB=>!ltB (fun x:wAB × wAB=>wAb x.1 x.2) y x) (fun a b c h1 h2=>by
   rw [lt] at h1 h2 ⊢
   simp only [nV,decide_eq_false_iff_not] at h1 h2 ⊢
   simp only [ltO] at h1 h2 ⊢
   omega) (fun a b=>by
   rw [lt,lt]
   simp only [Bool.or_eq_true,nV,decide_eq_false_iff_not]
   simp only [ltO]
   omega) A
 generalize A.mergeSort (fun x y=>!ltB (fun x:wAB × wAB=>wAb x.1 x.2) y x)=A' at hp so
 refine ⟨_,A',τ,rfl,dl,fun i hi=>?_,fun i hi j hj t htj=>tx.iff i hi t ((hT.all t).2 ⟨_,wAp (by omega),htj⟩),fun i s hi hs=>(hT.all s).1 (tx.in_ i s hi hs),⟨fun o ho=>te.of o (hp.mem_iff.1 ho),fun i hi h=>?_,(hp.map _).nodup_iff.2 te.one⟩,?_,by have:=hp.length_eq;omega⟩
 ·have hd:=td i hi
  cases hτ:τ i with
  | some s =>
   right
   refine ⟨s,rfl,?_⟩
   rw [hd,hτ];rfl
  | none =>
   left
   refine ⟨rfl,?_⟩
   show gd done i=_
   rw [hd,hτ]
   have:cn (gd r.Times i) (wEl L L.length)=(gd r.Times i).length:=by
    refine List.countP_eq_length.2 fun x hx=>?_
    have hxl:x ∈ L:=(hT.all x).2 ⟨_,wAp (by omega),hx⟩
    obtain ⟨q,hq,eq⟩:=nD hxl
    rw [<- wBg hq] at eq
    unfold wEl
    rw [if_neg (by omega),<- eq]
    by_cases c:q=L.length - 1
    ·subst c;simp
    ·have:=nB.1 hT.inc q (L.length - 1) hq (by omega) (by omega)
     rw [<- wBg hq,<- wBg (by omega)] at this
     simp;omega
   rw [nj,this]
 ·obtain ⟨o,ho,e⟩:=te.all i hi h
  exact ⟨o,hp.mem_iff.2 ho,e⟩
 ·have nd:=(hp.map (·.Bib)).nodup_iff.2 te.one
  refine (so.and (List.pairwise_map.1 (nK.1 nd))).imp fun {a b} h=>?_
  obtain ⟨h1,h2⟩:=h
  rw [lt] at h1
  simp only [nV,decide_eq_false_iff_not] at h1 ⊢
  simp only [ltO] at h1 ⊢
  omega
end Go.Proofs.YtglpalgiipahjaaGreat
namespace Go.Proofs.YtglpalgiipahjaaGreat
open Go.KL
structure wOo (r:wAE) (A:List wAB) (τ:Nat->Option Int):Prop where
 ex:∀ i,i < r.Bibs.length->∀ j,j < r.Bibs.length->∀ t ∈ gd r.Times j,nbf τ i t->(τ i=some t ↔ ∃ k,lap r τ i t k)
 in_:∀ i s,i < r.Bibs.length->τ i=some s->∃ l ∈ r.Times,s ∈ l
 ents:Ents r τ A
 ord:A.Pairwise ltO
theorem RunP.found {r:wAE} {D:List Int} {A:List wAB} {τ:Nat->Option Int} (h:RunP r D A τ):wOo r A τ:=⟨h.ex,h.in_,h.ents,h.ord⟩
end Go.Proofs.YtglpalgiipahjaaGreat
namespace Go.Proofs.YtglpalgiipahjaaGreat
open Go.KL
theorem wQG {r r':wAE} {A A':List wAB} {τ τ':Nat->Option Int} (F:wOo r A τ) (F':wOo r' A' τ') {k j:Nat} (hkj:k ≠ j) (hk:k < 2) (hj:j < 2) (n2:r.Bibs.length=2) (n2':r'.Bibs.length=2)
  (same:gd r'.Times j=gd r.Times j) (inc:(gd r'.Times k).Pairwise (· < ·)) (fast:∀ t,cn (gd r.Times k) t <= cn (gd r'.Times k) t) (tl:r.Times.length=2) (tl':r'.Times.length=2) (no:τ k=none):τ' k=none:=by
 have hall:∀ {T:List (List Int)} {l:List Int},T.length=2->l ∈ T->∃ q,q < 2/\gd T q=l:=fun {T l} h hl=>by
  obtain ⟨i,hi,e⟩:∃ i,∃ h:i < T.length,T[i]=l:=nD hl
  exact ⟨i,by omega,by rw [wBg hi,e]⟩
 cases e:τ' k with
 | none=>rfl
 | some t =>
  exfalso
  obtain ⟨l,hl,ht⟩:=F'.in_ k t (by omega) e
  obtain ⟨q,hq,rfl⟩:=hall tl' hl
  have nk:∀ u,u <= t->nbf τ' k u:=fun u hu s hs=>by
   rw [e] at hs
   have:=nO hs
   omega
  obtain ⟨x,x1,x2,x3,x4⟩:=(F'.ex k (by omega) q (by omega) t ht (nk t (nH _))).1 e
  have ex:x=j:=by
   by_cases c:x=k
   ·rw [c] at x4;omega
   ·omega
  subst ex
  rw [same] at x3 x4
  have h1:=fast t
  have hn:¬ nbf τ x t:=fun c=>by
   have:=(F.ex k (by omega) x (by omega) t x3 (fun s hs=>by rw [no] at hs;cases hs)).2 ⟨x,by omega,c,x3,by omega⟩
   rw [no] at this
   cases this
  simp only [nbf,Classical.not_forall] at hn
  obtain ⟨s,hs,hst⟩:=hn
  obtain ⟨l,hl,hs2⟩:=F.in_ x s (by omega) hs
  obtain ⟨q,hq,rfl⟩:=hall tl hl
  obtain ⟨y,y1,y2,y3,y4⟩:=(F.ex x (by omega) q (by omega) s hs2 (fun u hu=>by rw [hs] at hu;have:=nO hu;omega)).1 hs
  have ey:y=k:=by
   by_cases c:y=x
   ·rw [c] at y4;omega
   ·omega
  subst ey
  have h2:=fast s
  have h3:=wHe (gd r'.Times y) s
  have hc:cn (gd r.Times y) s - 1 < (gd r'.Times y).length:=by omega
  have h4:gd (gd r'.Times y) (cn (gd r.Times y) s - 1) <= s:=(wHf inc hc).1 (by omega)
  have h5:=wOk inc hc
  have h6:=wLu (gd r.Times x) h4
  have hmem:gd (gd r'.Times y) (cn (gd r.Times y) s - 1) ∈ gd r'.Times y:=wAp hc
  have:=(F'.ex x (by omega) y (by omega) _ hmem (fun u hu=>by have:=x2 u hu;omega)).2 ⟨y,by omega,nk _ (by omega),hmem,by rw [same];omega⟩
  have:=x2 _ this
  omega
end Go.Proofs.YtglpalgiipahjaaGreat
namespace Go.Proofs.YtglpalgiipahjaaGreat
open Go.KL
def fD (s:wAD) (n:Int):Int:=w64 ((w64 ((w64 (s.X - (w64 (2500 * (w64 (n - 1)))))) * (w64 (s.X - (w64 (2500 * (w64 (n - 1)))))))) + (w64 (s.Y * s.Y)))
def wMp (R:Int) (s:wAD) (l:List Int) (n:Int):Bool:=!decide (n ∈ l) && decide (fD s n <= R)
def wCv (R:Int) (s:wAD) (l:List Int):Int :=
 if wMp R s l 5 then 5 else if wMp R s l 4 then 4 else if wMp R s l 3 then 3 else if wMp R s l 2 then 2 else if wMp R s l 1 then 1 else 0
theorem wCf (R:Int) (s:wAD) (l:List Int):0 <= wCv R s l/\wCv R s l <= 5/\(0 < wCv R s l->wCv R s l ∉ l):=by
 unfold wCv
 have h:∀ n,wMp R s l n=true->n ∉ l:=fun n hn=>by
  unfold wMp at hn
  simp only [Bool.and_eq_true,nV,decide_eq_false_iff_not] at hn
  exact hn.1
 split
 ·rename_i e;exact ⟨by omega,by omega,fun _=>h _ e⟩
 ·split
  ·rename_i e;exact ⟨by omega,by omega,fun _=>h _ e⟩
  ·split
   ·rename_i e;exact ⟨by omega,by omega,fun _=>h _ e⟩
   ·split
    ·rename_i e;exact ⟨by omega,by omega,fun _=>h _ e⟩
    ·split
     ·rename_i e;exact ⟨by omega,by omega,fun _=>h _ e⟩
     ·exact ⟨by omega,by omega,fun e=>by omega⟩
def wJK (l:List Int):Nat:=l.count 1 + l.count 2 + l.count 3 + l.count 4 + l.count 5
theorem wFt (l:List Int) (x:Int) (h0:0 <= x) (h5:x <= 5):wJK (l ++ [x])=wJK l + if 0 < x then 1 else 0:=by
 unfold wJK
 have:x=0 \/ x=1 \/ x=2 \/ x=3 \/ x=4 \/ x=5:=by omega
 rcases this with rfl | rfl | rfl | rfl | rfl | rfl <;> simp [nf] <;> omega
theorem wHi {l:List Int} (hn:∀ n,0 < n->l.count n <= 1):wJK l <= 5:=by
 unfold wJK
 have:=hn 1 (by omega);have:=hn 2 (by omega);have:=hn 3 (by omega);have:=hn 4 (by omega);have:=hn 5 (by omega)
 omega
structure wPG (i:Nat) (d:Arr Bool 6) (x:Int) (l:List Int):Prop where
 len:l.length=i
 rng:∀ n ∈ l,0 <= n/\n <= 5
 one:∀ n,0 < n->l.count n <= 1
 cnt:x=wJK l
 dn:∀ n:Nat,1 <= n->n <= 5->d.get n=decide ((n:Int) ∈ l)
theorem wIf {R:Int} {s:wAD} {d:Arr Bool 6} {l:List Int} (hd:∀ n:Nat,1 <= n->n <= 5->d.get n=decide ((n:Int) ∈ l)) {R2:Int} (hR:w64 (R2 * R2)=R) :
    (wBw 1 (5 + 1) (fun k165 x164 =>
        (chk (1 + ↑k165:Int) 6).bind fun _ =>
        if (d.get ((1 + ↑k165:Int).toNat))=true then
          some x164
        else
          if (w64 ((w64 ((w64 (s.X - (w64 (2500 * (w64 ((1 + ↑k165:Int) - 1)))))) * (w64 (s.X - (w64 (2500 * (w64 ((1 + ↑k165:Int) - 1)))))))) + (w64 (s.Y * s.Y)))) <= (w64 (R2 * R2)) then
            some (1 + ↑k165:Int)
          else
            some x164) 0)=some (wCv R s l):=by
  rw [hR]
  have step:∀ (k:Nat) (x:Int),k < 5->((chk (1 + ↑k:Int) 6).bind fun _ =>
        if (d.get ((1 + ↑k:Int).toNat))=true then
          some x
        else
          if (w64 ((w64 ((w64 (s.X - (w64 (2500 * (w64 ((1 + ↑k:Int) - 1)))))) * (w64 (s.X - (w64 (2500 * (w64 ((1 + ↑k:Int) - 1)))))))) + (w64 (s.Y * s.Y)))) <= R then
            some (1 + ↑k:Int)
          else
            some x)=some (if wMp R s l (1 + ↑k:Int) then (1 + ↑k:Int) else x):=by
    intro k x hk
    rw [wCW (by omega) (by omega)]
    simp only [nA]
    have e:(1 + (k:Int)).toNat=k + 1:=by omega
    rw [e,hd (k + 1) (by omega) (by omega)]
    have e2:((k + 1:Nat):Int)=1 + (k:Int):=by omega
    rw [e2]
    unfold wMp fD
    by_cases h1:(1 + (k:Int)) ∈ l
    · simp [h1]
    · by_cases h2:(w64 ((w64 ((w64 (s.X - (w64 (2500 * (w64 ((1 + ↑k:Int) - 1)))))) * (w64 (s.X - (w64 (2500 * (w64 ((1 + ↑k:Int) - 1)))))))) + (w64 (s.Y * s.Y)))) <= R
      · simp [h1,h2]
      · simp [h1,h2]
  unfold wBw
  rw [if_pos (by omega)]
  show forN' _ 5 0 0=_
  simp only [forN',step 0 _ (by omega),step (0 + 1) _ (by omega),step (0 + 1 + 1) _ (by omega),step (0 + 1 + 1 + 1) _ (by omega),step (0 + 1 + 1 + 1 + 1) _ (by omega)]
  unfold wCv
  have c1:(1 + ((0:Nat):Int))=1:=by omega
  have c2:(1 + ((0 + 1:Nat):Int))=2:=by omega
  have c3:(1 + ((0 + 1 + 1:Nat):Int))=3:=by omega
  have c4:(1 + ((0 + 1 + 1 + 1:Nat):Int))=4:=by omega
  have c5:(1 + ((0 + 1 + 1 + 1 + 1:Nat):Int))=5:=by omega
  rw [c1,c2,c3,c4,c5]
def fIn (s:wAD):Bool:=(decide (-20000 <= s.X) && decide (s.X <= 20000)) && (decide (-20000 <= s.Y) && decide (s.Y <= 20000))
theorem wLx (x a b:Int):wBQ x a b=some (decide (a <= x) && decide (x <= b)):=by
 unfold wBQ
 by_cases h:a <= x <;> simp [h]
theorem wLy (s:wAD):wAh s=some (fIn s):=by
 unfold wAh fIn
 simp only [wLx,nA]
 by_cases h:(decide (-20000 <= s.X) && decide (s.X <= 20000))=true
 ·rw [h];simp
 ·have:(decide (-20000 <= s.X) && decide (s.X <= 20000))=false:=by simpa using h
  rw [this];simp
theorem wJn {l:List wAD} {f:wAD->Option Bool} {p:wAD->Bool} (hf:∀ a,f a=some (p a)) (hn:l.length <= 9223372036854775807):wAd l f=some (l.all p):=by
 unfold wAd wAM wAO wAW
 have:=wGX (R:=Int) (l:=l) (f:=fun x=>(f x).bind fun x5=>some (!x5)) (p:=fun a=>!p a) (fun a _=>by rw [hf];rfl) hn id
 simp only [id] at this
 rw [this]
 simp only [nA,wFq]
 congr 1
 clear this hn
 induction l with
 | nil=>rfl
 | cons a l ih=>rw [List.any_cons,List.all_cons,<- ih];cases p a <;> simp
def wPH (l:List Int):Nat:=l.countP fun n=>decide (0 < n)
theorem wJo {l:List Int} (hl:l.length <= 8):(wBw 0 (↑l.length:Int) (fun k23 x22 =>
      (chk (↑k23:Int) l.length).bind fun _ =>
      if 0 < (gd l k23) then
        some (w64 (x22 - 1))
      else
        some x22) (5:Int))=some (5 - (wPH l:Int)):=by
  rw [wEk (by omega)]
  have key:∀ (m k:Nat) (x:Int),k + m=l.length->-100 <= x - m->x <= 100->(forN' (fun k23 x22 =>
      (chk (↑k23:Int) l.length).bind fun _ =>
      if 0 < (gd l k23) then
        some (w64 (x22 - 1))
      else
        some x22) m k x)=some (x - (wPH (l.drop k):Int)):=by
    intro m
    induction m with
    | zero=>intro k x hk _ _;rw [nr (by omega)];simp [forN',wPH]
    | succ m ih =>
      intro k x hk h1 h2
      have hlt:k < l.length:=by omega
      have e:l.drop k=l[k] :: l.drop (k + 1):=ng hlt
      rw [e,forN',wCW (by omega) (by omega)]
      simp only [nA]
      have hg:gd l k=l[k]:=by unfold gd;rw [nb,nN hlt];rfl
      rw [hg]
      unfold wPH at ih ⊢
      rw [nW]
      by_cases hp:0 < l[k]
      · rw [if_pos hp,wAa (by omega) (by omega)]
        simp only
        rw [ih (k + 1) (x - 1) (by omega) (by omega) (by omega)]
        have:decide (0 < l[k])=true:=by simpa using hp
        rw [if_pos this]
        congr 1;omega
      · rw [if_neg hp]
        simp only
        rw [ih (k + 1) x (by omega) (by omega) (by omega)]
        have:¬ decide (0 < l[k])=true:=by simpa using hp
        rw [if_neg this]
        rfl
  have:=key l.length 0 5 (by omega) (by omega) (by omega)
  simpa using this
def fl (R:Int):List wAD->List Int->Option (List Int)
 | [],l=>some l
 | s :: r,l=>if wJK l=5 then none else fl R r (l ++ [wCv R s l])
def flr:Option (List Int)->List Int × Int
 | none=>([],9)
 | some l=>(l,0)
theorem wQH:wPG 0 (Arr.fill 6 false) 0 []:=by
 refine ⟨rfl,by simp,by simp,by simp [wJK],fun n h1 h2=>?_⟩
 have:n=1 \/ n=2 \/ n=3 \/ n=4 \/ n=5:=by omega
 rcases this with rfl | rfl | rfl | rfl | rfl <;> rfl
theorem wLz {R:Int} {s:wAD} {d:Arr Bool 6} {x:Int} {l:List Int} (F:wPG l.length d x l) (h8:l.length <= 8) (hx:x ≠ 5) :
  (0 < wCv R s l->wPG (l.length + 1) (d.set (wCv R s l).toNat true) (w64 (x + 1)) (l ++ [wCv R s l]))/\(¬ 0 < wCv R s l->wPG (l.length + 1) d x (l ++ [wCv R s l])):=by
 obtain ⟨r1,r2,r3⟩:=wCf R s l
 generalize wCv R s l=q at r1 r2 r3
 have hcnt:=wFt l q r1 r2
 have hle:=wHi F.one
 have base:∀ {d':Arr Bool 6} {x':Int},x'=wJK (l ++ [q])->(∀ n:Nat,1 <= n->n <= 5->d'.get n=decide ((n:Int) ∈ l ++ [q]))->wPG (l.length + 1) d' x' (l ++ [q]):=by
  intro d' x' hx' hd'
  refine ⟨by simp,fun n hn=>?_,fun n hn=>?_,hx',hd'⟩
  ·rcases nI.1 hn with h | h
   ·exact F.rng n h
   ·simp at h;subst h;exact ⟨r1,r2⟩
  ·rw [nf]
   by_cases e:n=q
   ·subst e
    have:l.count n=0:=nU.2 (r3 hn)
    rw [this];simp
   ·have:[q].count n=0:=by rw [nU];simp [e]
    rw [this];exact F.one n hn
 refine ⟨fun hq=>base ?_ fun n n1 n2=>?_,fun hq=>base ?_ fun n n1 n2=>?_⟩
 ·have:=F.cnt
  rw [if_pos hq] at hcnt
  rw [wAa (by omega) (by omega)];omega
 ·have hg:(d.set q.toNat true).get n=if q.toNat=n then true else d.get n:=by
   unfold Arr.get Arr.set
   have hl6:=d.h
   simp only [nb,List.getElem?_set]
   by_cases e:q.toNat=n
   ·rw [if_pos e,if_pos e,if_pos (by omega)];rfl
   ·rw [if_neg e,if_neg e]
  rw [hg,F.dn n n1 n2]
  by_cases e:q.toNat=n
  ·have:(n:Int)=q:=by omega
   rw [if_pos e];simp [this]
  ·have:¬ (n:Int)=q:=by omega
   rw [if_neg e];simp [this]
 ·have:=F.cnt
  rw [if_neg hq] at hcnt
  omega
 ·rw [F.dn n n1 n2]
  have:¬ (n:Int)=q:=by omega
  simp [this]
theorem wFu {R R2:Int} (hR:w64 (R2 * R2)=R) {shots:List wAD} (h8:shots.length <= 8):∀ (m k:Nat) (d:Arr Bool 6) (x:Int) (l:List Int),k + m=shots.length->wPG k d x l ->
  jn (forN (fun k110 (a104,x105,l106) =>
  (idx shots (↑k110:Int)).bind fun x135 =>
  if x105=5 then
   esc (some ([],9))
  else
   (wBw 1 (5 + 1) (fun k165 x164 =>
    (chk (1 + ↑k165:Int) 6).bind fun _ =>
    if (a104.get ((1 + ↑k165:Int).toNat))=true then
     some x164
    else
     if (w64 ((w64 ((w64 (x135.X - (w64 (2500 * (w64 ((1 + ↑k165:Int) - 1)))))) * (w64 (x135.X - (w64 (2500 * (w64 ((1 + ↑k165:Int) - 1)))))))) + (w64 (x135.Y * x135.Y)))) <= (w64 (R2 * R2)) then
      some (1 + ↑k165:Int)
     else
      some x164) 0).bind fun y170 =>
   if 0 < y170 then
    (chk y170 6).bind fun _ =>
    (app 8 l106 [y170]).bind fun x235 =>
    some (.inl ((a104.set y170.toNat true),w64 (x105 + 1),x235))
   else
    (app 8 l106 [y170]).bind fun x254 =>
    some (.inl (a104,x105,x254))) m k (d,x,l)) (fun (y271,y272,y273)=>some (y273,(0:Int)))=some (flr (fl R (shots.drop k) l))
 | 0,k,d,x,l,hk,_=>by rw [nr (by omega)];rfl
 | m + 1,k,d,x,l,hk,F=>by
  have ih:=wFu (R2:=R2) hR h8 m (k + 1)
  have hlt:k < shots.length:=by omega
  have hl:=F.len
  rw [ng hlt,fl,forN]
  simp only
  rw [wHr,nN hlt,nA]
  by_cases hx:x=5
  ·rw [if_pos hx,if_pos (by have:=F.cnt;omega)]
   rfl
  ·rw [if_neg hx,if_neg (by have:=F.cnt;omega),wIf F.dn hR,nA]
   obtain ⟨r1,r2,r3⟩:=wCf R shots[k] l
   have ha:app 8 l [wCv R shots[k] l]=some (l ++ [wCv R shots[k] l]):=wEX (by simp;omega)
   obtain ⟨s1,s2⟩:=wLz (R:=R) (s:=shots[k]) (hl ▸ F) (by omega) hx
   rw [hl] at s1 s2
   by_cases hq:0 < wCv R shots[k] l
   ·rw [if_pos hq,wCW r1 (by omega),nA,ha,nA]
    exact ih _ _ _ (by omega) (s1 hq)
   ·rw [if_neg hq,ha,nA]
    exact ih _ _ _ (by omega) (s2 hq)
theorem wMq {p:Int} (hp:p=0 \/ p=1) {shots:List wAD} (h8:shots.length <= 8) (hin:shots.all fIn=true):wBn p shots=some (flr (fl (if p=0 then 50625 else 330625) shots [])):=by
 have hall:=wJn (l:=shots) (p:=fIn) wLy (by omega)
 unfold wBn
 have h8':¬ 8 < (↑shots.length:Int):=by omega
 rcases hp with rfl | rfl
 ·rw [if_pos rfl,if_neg h8',hall,hin,nA,if_pos rfl,wCx,if_pos rfl]
  have hi:idx ([225,575]:List Int) 0=some 225:=rfl
  rw [hi,nA,wCe (by omega)]
  exact wFu (R:=50625) (by decide) h8 shots.length 0 _ _ _ (by omega) wQH
 ·rw [if_neg (by decide),if_pos rfl,if_neg h8',hall,hin,nA,if_pos rfl,wCx,if_neg (by decide)]
  have hi:idx ([225,575]:List Int) 1=some 575:=rfl
  rw [hi,nA,wCe (by omega)]
  exact wFu (R:=330625) (by decide) h8 shots.length 0 _ _ _ (by omega) wQH
theorem wNU {R:Int}:∀ {s:List wAD} {l r:List Int},fl R s l=some r->r.length=l.length + s.length
 | [],l,r,h=>by cases h;simp
 | b :: s,l,r,h=>by
  rw [fl] at h
  split at h
  ·cases h
  ·have:=wNU h
   simp at this ⊢
   omega
theorem wNV {R:Int}:∀ {s:List wAD} {l r:List Int},fl R s l=some r->(∀ n ∈ l,0 <= n/\n <= 5)->∀ n ∈ r,0 <= n/\n <= 5
 | [],l,r,h,hl=>by cases h;exact hl
 | b :: s,l,r,h,hl=>by
  rw [fl] at h
  split at h
  ·cases h
  ·refine wNV h fun n hn=>?_
   rcases nI.1 hn with hn | hn
   ·exact hl n hn
   ·obtain ⟨r1,r2,_⟩:=wCf R b l
    simp at hn
    subst hn
    exact ⟨r1,r2⟩
theorem wNW {R:Int}:∀ {s:List wAD} {l r:List Int},fl R s l=some r->(∀ n,0 < n->l.count n <= 1)->∀ n,0 < n->r.count n <= 1
 | [],l,r,h,hl=>by cases h;exact hl
 | b :: s,l,r,h,hl=>by
  rw [fl] at h
  split at h
  ·cases h
  ·refine wNW h fun n hn=>?_
   obtain ⟨_,_,r3⟩:=wCf R b l
   rw [nf]
   by_cases e:n=wCv R b l
   ·subst e
    rw [nU.2 (r3 hn)]
    simp
   ·rw [nU (l:=[wCv R b l]).2 (by simp [e])]
    exact hl n hn
theorem wMA:∀ {l:List Int},(∀ n ∈ l,0 <= n/\n <= 5)->wPH l=wJK l
 | [],_=>rfl
 | a :: l,h=>by
  have ih:=wMA (l:=l) fun n hn=>h n (by simp [hn])
  have h0:=h a (by simp)
  unfold wPH wJK at ih ⊢
  rw [nW,ih]
  have:a=0 \/ a=1 \/ a=2 \/ a=3 \/ a=4 \/ a=5:=by omega
  rcases this with rfl | rfl | rfl | rfl | rfl | rfl <;> simp <;> omega
end Go.Proofs.YtglpalgiipahjaaGreat
namespace Go.Proofs.YtglpalgiipahjaaGreat
open Go.KL
theorem wHj {a b:Int} (h0:0 <= a) (hb:0 < b):∃ x,rem a b=some x/\0 <= x/\x < b:=by
 refine ⟨a.tmod b,if_neg (by omega),?_,?_⟩
 ·rw [nc h0];exact Int.emod_nonneg _ (by omega)
 ·rw [nc h0];exact Int.emod_lt_of_pos _ hb
theorem wIg (x:Int):0 <= wDN x:=by unfold wDN;omega
theorem wOp (x:Int):wDN x < 4294967296:=by unfold wDN;omega
theorem w64u (x:Int):w64 (wDN x)=wDN x:=by
 have:=wIg x
 have:=wOp x
 exact wAa (by omega) (by omega)
theorem wMr (a:Int) {b:Int} (hb:b ≠ 0):∃ x,quo a b=some x:=⟨_,if_neg hb⟩
theorem wMB (d:wAC) (n:Int) (h0:0 <= d.next) (h1:d.next <= 1000000):∃ x d',wAQ d n=some (x,d')/\0 <= d'.next/\d'.next <= d.next + 1/\0 <= x/\(x < n \/ (n <= 1/\x=0)):=by
 unfold wAQ
 by_cases hn:n <= 1
 ·exact ⟨0,d,by rw [if_pos hn],h0,by omega,by omega,.inr ⟨hn,rfl⟩⟩
 rw [if_neg hn]
 by_cases hl:(d.bytes.length:Int)=0
 ·exact ⟨0,d,by rw [if_pos hl],h0,by omega,by omega,.inl (by omega)⟩
 rw [if_neg hl]
 obtain ⟨r,e1,r0,r1⟩:=wHj h0 (show (0:Int) < d.bytes.length by omega)
 obtain ⟨b,e2⟩:∃ b,idx d.bytes r=some b:=by
  unfold idx
  rw [if_pos r0,nN (by omega)]
  exact ⟨_,rfl⟩
 obtain ⟨q,e3⟩:=wMr d.next (b:=d.bytes.length) hl
 obtain ⟨st,e4,_,_⟩:=wHj (wIg ((wDN ((wDN ((wDN (d.state * 45)) + (wDN b))) + (wDN (77 * (wDN q))))) + 1)) (b:=65519) (by decide)
 rw [e1,nA,e2,nA,e3,nA,e4,nA,wAa (x:=d.next + 1) (by omega) (by omega)]
 have fin:∀ z:Int,∃ x d',((rem (w64 (wDN z)) n).bind fun x=>some (x,(⟨d.bytes,d.next + 1,st⟩:wAC)))=some (x,d')/\0 <= d'.next/\d'.next <= d.next + 1/\0 <= x/\(x < n \/ (n <= 1/\x=0)):=by
  intro z
  obtain ⟨x,e5,x0,x1⟩:=wHj (a:=w64 (wDN z)) (b:=n) (by rw [w64u];exact wIg z) (by omega)
  exact ⟨x,_,by rw [e5];rfl,by show 0 <= d.next + 1;omega,by show d.next + 1 <= _;omega,x0,.inl x1⟩
 by_cases c1:wDN q=0
 ·rw [if_pos c1]
  by_cases c2:n <= 256
  ·rw [if_pos c2];exact fin _
  ·rw [if_neg c2];exact fin _
 ·rw [if_neg c1];exact fin _
theorem wOq (d:wAC) (a b:Int) (h0:0 <= d.next) (h1:d.next <= 1000000) (ha:-1000000 <= a) (hab:a <= b) (hb:b <= 1000000):∃ x d',wAH d a b=some (x,d')/\0 <= d'.next/\d'.next <= d.next + 1/\a <= x/\x <= b:=by
 unfold wAH
 rw [wAa (x:=b - a) (by omega) (by omega),wAa (x:=b - a + 1) (by omega) (by omega)]
 obtain ⟨x,d',e,n0,n1,x0,x1⟩:=wMB d (b - a + 1) h0 h1
 refine ⟨a + x,d',?_,n0,n1,by omega,by omega⟩
 rw [e,nA]
 simp only
 rw [wAa (by omega) (by omega)]
end Go.Proofs.YtglpalgiipahjaaGreat
namespace Go.Proofs.YtglpalgiipahjaaGreat
open Go.KL
def DeckOK (d:wAC) (n:Int):Prop:=0 <= d.next/\d.next <= n
theorem DeckOK.le {d:wAC} {n m:Int} (h:DeckOK d n) (hm:n <= m):DeckOK d m:=⟨h.1,by have:=h.2;omega⟩
theorem wNX {d:wAC} {N:Int} (h:DeckOK d N) (hN:N <= 100000) (n:Int):∃ x d',wAQ d n=some (x,d')/\DeckOK d' (N + 1)/\0 <= x/\(x < n \/ (n <= 1/\x=0)):=by
 obtain ⟨x,d',e,a,b,c⟩:=wMB d n h.1 (by have:=h.2;omega)
 exact ⟨x,d',e,⟨a,by have:=h.2;omega⟩,c⟩
theorem wJL {d:wAC} {N:Int} (h:DeckOK d N) (hN:N <= 100000) {a b:Int} (ha:-1000000 <= a) (hab:a <= b) (hb:b <= 1000000):∃ x d',wAH d a b=some (x,d')/\DeckOK d' (N + 1)/\a <= x/\x <= b:=by
 obtain ⟨x,d',e,c,c2,c3⟩:=wOq d a b h.1 (by have:=h.2;omega) ha hab hb
 exact ⟨x,d',e,⟨c,by have:=h.2;omega⟩,c3⟩
theorem wMs {d:wAC} {N:Int} (h:DeckOK d N) (h0:0 <= N) (hN:N <= 10000):∃ l d',wAt d 5=some (l,d')/\DeckOK d' (N + 20)/\l.length <= 5/\l.all fIn=true:=by
 unfold wAt
 rw [wAa (by omega) (by omega)]
 obtain ⟨x,d1,e,m0,x0,x1⟩:=wNX h (by omega) (5 + 1)
 rw [e,nA]
 simp only
 have hx:x <= 5:=by omega
 unfold wBw
 rw [if_pos (by omega)]
 obtain ⟨⟨b,nx,st,l⟩,hs,hI⟩:=wFp (body:=fun (k53:Nat) ((l44,x47,x48,l49):List Int × Int × Int × List wAD) =>
  (wAQ (⟨l44,x47,x48⟩:wAC) 5).bind fun (x80,x81) =>
  (wAH x81 (-60) 60).bind fun (x94,x95) =>
  (wAH x95 (-40) 40).bind fun (x108,x109) =>
  (app 16 l49 [(⟨w64 ((w64 (2500 * x80)) + (w64 (10 * x94))),w64 (10 * x108)⟩:wAD)]).bind fun x127 =>
  some (x109.bytes,x109.next,x109.state,x127)) (fun (k:Nat) (s:List Int × Int × Int × List wAD)=>DeckOK ⟨s.1,s.2.1,s.2.2.1⟩ (N + 1 + 3 * (k:Int))/\s.2.2.2.length=k/\s.2.2.2.all fIn=true) (x - 0).toNat 0 (d1.bytes,d1.next,d1.state,[]) ⟨m0.le (by omega),rfl,rfl⟩ (by
   rintro i ⟨b,nx,st,l⟩ hi0 hi1 ⟨n0,hl,hz⟩
   simp only at n0 hl hz ⊢
   obtain ⟨a,d2,e2,p0,a0,a1⟩:=wNX n0 (by omega) 5
   obtain ⟨y,d3,e3,q0,y0,y1⟩:=wJL p0 (by omega) (a:=-60) (b:=60) (by omega) (by omega) (by omega)
   obtain ⟨v,d4,e4,r0,v0,v1⟩:=wJL q0 (by omega) (a:=-40) (b:=40) (by omega) (by omega) (by omega)
   rw [e2,nA]
   simp only
   rw [e3,nA]
   simp only
   rw [e4,nA]
   simp only
   have a5:a <= 4:=by omega
   rw [wAa (x:=2500 * a) (by omega) (by omega),wAa (x:=10 * y) (by omega) (by omega),wAa (x:=2500 * a + 10 * y) (by omega) (by omega),wAa (x:=10 * v) (by omega) (by omega),app,if_pos (by simp;omega),nA]
   refine ⟨_,rfl,r0.le (by omega),by simp [hl],?_⟩
   simp only
   rw [List.all_append,hz,Bool.true_and,List.all_cons,List.all_nil,Bool.and_true]
   unfold fIn
   simp only [Bool.and_eq_true,decide_eq_true_eq]
   omega)
 rw [hs,nA]
 simp only at hI ⊢
 exact ⟨l,_,rfl,hI.1.le (by omega),by omega,hI.2.2⟩
theorem wMC {R:Int}:∀ (s:List wAD) (l:List Int),wJK l + s.length <= 5->∃ r,fl R s l=some r
 | [],l,_=>⟨l,rfl⟩
 | a :: s,l,h=>by
  rw [fl,if_neg (by simp at h;omega)]
  obtain ⟨r1,r2,_⟩:=wCf R a l
  refine wMC s _ ?_
  have:=wFt l (wCv R a l) r1 r2
  rw [this]
  simp only [nS] at h
  split <;> omega
theorem wQI {p:Int} (hp:p=0 \/ p=1) {l:List wAD} (hl:l.length <= 5) (hin:l.all fIn=true):∃ x,wBb p l=some (x,0)/\0 <= x/\x <= 5:=by
 have e:=wMq hp (show l.length <= 8 by omega) hin
 obtain ⟨r,hr⟩:=wMC (R:=if p=0 then 50625 else 330625) l [] (by simp [wJK];omega)
 rw [hr] at e
 have hlen:=wNU hr
 have hc:=wHi (wNW hr (fun _ _=>by simp))
 refine ⟨5 - (wJK r:Int),?_,by omega,by omega⟩
 unfold wBb
 rw [e,flr,nA]
 simp only [if_pos]
 rw [wJo (by simp at hlen;omega),nA,wMA (wNV hr (by simp))]
abbrev IS:=(List Int) × Int × Int × (List Int) × Int × Int × (List Int) × (List Int) × Int
abbrev OS:=(List Int) × (List (List Int)) × (List Int) × Int × Int × (List Int) × Int × Int × (List Int)
def sI (k145 k261:Nat):IS->Option (IS ⊕ (OS ⊕ Bool))
 | (l245,x248,x249,l250,x253,x254,l255,l256,x260) =>
   (wAH (⟨l245,x248,x249⟩:wAC) 300 700).bind fun (x295,x296) =>
   (app 8 l256 [w64 (x260 + x295)]).bind fun x315 =>
   (rem (↑k261:Int) 2).bind fun x323 =>
   (wAt (⟨l250,x253,x254⟩:wAC) 5).bind fun (x327,x328) =>
   (wBb x323 x327).bind fun (x350,x351) =>
   if x351=0 then
    if x350 < 0 then
     esc (esc (some false))
    else
     if 5 < x350 then
      esc (esc (some false))
     else
      if (↑k261:Int)=0 then
       (chk (↑k145:Int) l255.length).bind fun _ =>
       some (.inl (x296.bytes,x296.next,x296.state,x328.bytes,x328.next,x328.state,(nR l255 k145 x350),x315,w64 ((w64 (x260 + x295)) + (w64 (250 * x350)))))
      else
       some (.inl (x296.bytes,x296.next,x296.state,x328.bytes,x328.next,x328.state,l255,x315,w64 ((w64 (x260 + x295)) + (w64 (250 * x350)))))
   else
    esc (esc (some false))
def sO (x33:Int) (k145:Nat):OS->Option (OS ⊕ Bool)
 | (l124,l128,l134,x137,x138,l139,x142,x143,l144) =>
  (app 8 l124 [(↑(k145 + 1):Int)]).bind fun x185 =>
  jn (wEo 0 x33 (sI k145) (l134,x137,x138,l139,x142,x143,l144,[],0)) fun (y456,y457,y458,y459,y460,y461,y462,y463,y464) =>
  (app 24 l128 [y463]).bind fun x503 =>
  some (.inl (x185,x503,y456,y457,y458,y459,y460,y461,y462))
structure Ch (f:Int) (l:List Int):Prop where
 nx:∀ i,i + 1 < l.length->gd l i + 300 <= gd l (i + 1)
 fi:1 < l.length->gd l 0 + 300 + 250 * f <= gd l 1
 rg:∀ i,i < l.length->0 <= gd l i/\gd l i <= 1950 * ((i:Int) + 1)
structure SI (k:Nat) (N:Int) (F0:List Int) (j:Nat) (s:IS):Prop where
 d:DeckOK ⟨s.1,s.2.1,s.2.2.1⟩ (N + 30 * j)
 q:DeckOK ⟨s.2.2.2.1,s.2.2.2.2.1,s.2.2.2.2.2.1⟩ (N + 30 * j)
 fl:s.2.2.2.2.2.2.1.length=2
 fo:∀ i,i < 2->i ≠ k->gd s.2.2.2.2.2.2.1 i=gd F0 i
 fr:∀ i,i < 2->0 <= gd s.2.2.2.2.2.2.1 i/\gd s.2.2.2.2.2.2.1 i <= 5
 n:s.2.2.2.2.2.2.2.1.length=j
 ch:Ch (gd s.2.2.2.2.2.2.1 k) s.2.2.2.2.2.2.2.1
 at_:0 <= s.2.2.2.2.2.2.2.2/\s.2.2.2.2.2.2.2.2 <= 1950 * (j:Int)
 la:∀ i,i + 1=j->gd s.2.2.2.2.2.2.2.1 i <= s.2.2.2.2.2.2.2.2
 l0:j=1->gd s.2.2.2.2.2.2.2.1 0 + 250 * gd s.2.2.2.2.2.2.1 k <= s.2.2.2.2.2.2.2.2
theorem wQJ {f t:Int} {l:List Int} (h:Ch f l) (h0:∀ i,i + 1=l.length->gd l i + 300 <= t) (h1:l.length=1->gd l 0 + 300 + 250 * f <= t) (ht:0 <= t) (ht2:t <= 1950 * ((l.length:Int) + 1)):Ch f (l ++ [t]):=by
 have e:gd (l ++ [t]) l.length=t:=wFH l [] t
 refine ⟨fun i hi=>?_,fun h2=>?_,fun i hi=>?_⟩
 ·rw [nJ,nY] at hi
  by_cases c:i + 1=l.length
  ·rw [c,e,wCR (by omega)];exact h0 i c
  ·rw [wCR (by omega),wCR (by omega)];exact h.nx i (by omega)
 ·rw [nJ,nY] at h2
  by_cases c:l.length=1
  ·have e1:gd (l ++ [t]) 1=t:=by rw [<- c];exact e
   rw [e1,wCR (by omega)];exact h1 c
  ·rw [wCR (by omega),wCR (by omega)];exact h.fi (by omega)
 ·rw [nJ,nY] at hi
  by_cases c:i=l.length
  ·rw [c,e];exact ⟨ht,ht2⟩
  ·rw [wCR (by omega)];exact h.rg i (by omega)
theorem ch_f {f g:Int} {l:List Int} (h:Ch f l) (hl:l.length <= 1):Ch g l:=⟨h.nx,fun h2=>by omega,h.rg⟩
theorem rem2 (k:Nat):∃ x,rem (k:Int) 2=some x/\(x=0 \/ x=1):=by
 obtain ⟨x,e,h0,h1⟩:=wHj (a:=(k:Int)) (b:=2) (by omega) (by omega)
 exact ⟨x,e,by omega⟩
theorem sI_ok {k:Nat} (hk:k < 2) {N:Int} (h0:0 <= N) (hN:N <= 1000) {F0:List Int} {j:Nat} (hj:j < 8) {s:IS} (I:SI k N F0 j s):∃ s',sI k j s=some (.inl s')/\SI k N F0 (j + 1) s':=by
 obtain ⟨l1,x1,y1,l2,x2,y2,f,ts,a⟩:=s
 obtain ⟨hd,hq,hfl,hfo,hfr,hn,hch,hat,hla,hl0⟩:=I
 simp only at hd hq hfl hfo hfr hn hch hat hla hl0
 unfold sI
 simp only
 obtain ⟨v,d',e1,k1,v0,v1⟩:=wJL hd (by omega) (a:=300) (b:=700) (by omega) (by omega) (by omega)
 obtain ⟨sh,d2,e2,k2,s5,sin⟩:=wMs hq (by omega) (by omega)
 obtain ⟨p,e3,hp⟩:=rem2 j
 obtain ⟨x,e4,g0,g1⟩:=wQI hp s5 sin
 have w1:w64 (a + v)=a + v:=wAa (by omega) (by omega)
 have w2:w64 (250 * x)=250 * x:=wAa (by omega) (by omega)
 have w3:w64 (a + v + 250 * x)=a + v + 250 * x:=wAa (by omega) (by omega)
 have wa:app 8 ts [a + v]=some (ts ++ [a + v]):=wEX (by simp only [nS,nT];omega)
 rw [e1,nA]
 simp only
 rw [w1,wa,nA,e3,nA,e2,nA]
 simp only
 rw [e4,nA]
 simp only
 rw [w2,w3,if_pos trivial,if_neg (by omega),if_neg (by omega)]
 have hch2:∀ g:Int,(j=0 \/ g=gd f k)->Ch g (ts ++ [a + v]):=fun g hg=>by
  refine wQJ (f:=g) ?_ (fun i hi=>?_) (fun h1=>?_) (by omega) (by rw [hn];omega)
  ·rcases hg with hg | rfl
   ·exact ch_f hch (by omega)
   ·exact hch
  ·have:=hla i (by omega);omega
  ·rcases hg with hg | rfl
   ·omega
   ·have:=hl0 (by omega);omega
 have last:gd (ts ++ [a + v]) j=a + v:=by rw [<- hn];exact wFH ts [] (a + v)
 by_cases c:(j:Int)=0
 ·have j0:j=0:=by omega
  rw [if_pos c,wCW (by omega) (by omega),nA]
  have gk:gd (f.set k x) k=x:=by rw [wEv (by omega) (by omega),if_pos rfl]
  refine ⟨_,rfl,k1.le (by omega),k2.le (by omega),by simp [hfl],fun i hi hik=>?_,fun i hi=>?_,by simp [hn],?_,?_,fun i hi=>?_,fun hj1=>?_⟩
  ·simp only;rw [wEv (by omega) (by omega),if_neg hik];exact hfo i hi hik
  ·simp only;rw [wEv (by omega) (by omega)]
   split
   ·omega
   ·exact hfr i hi
  ·simp only;exact hch2 _ (.inl j0)
  ·simp only;omega
  ·simp only
   have:i=j:=by omega
   rw [this,last];omega
  ·simp only
   rw [gk,<- j0,last];omega
 ·rw [if_neg c]
  refine ⟨_,rfl,k1.le (by omega),k2.le (by omega),hfl,hfo,hfr,by simp [hn],?_,?_,fun i hi=>?_,fun hj1=>by omega⟩
  ·simp only;exact hch2 _ (.inr rfl)
  ·simp only;omega
  ·simp only
   have:i=j:=by omega
   rw [this,last];omega
structure SO (laps:Int) (k:Nat) (s:OS):Prop where
 bibs:s.1=(List.range k).map fun (i:Nat)=>(i:Int) + 1
 n:s.2.1.length=k
 rows:∀ q,q < k->((gd s.2.1 q).length:Int)=laps/\Ch (gd s.2.2.2.2.2.2.2.2 q) (gd s.2.1 q)
 d:DeckOK ⟨s.2.2.1,s.2.2.2.1,s.2.2.2.2.1⟩ (1 + 300 * k)
 q:DeckOK ⟨s.2.2.2.2.2.1,s.2.2.2.2.2.2.1,s.2.2.2.2.2.2.2.1⟩ (1 + 300 * k)
 fl:s.2.2.2.2.2.2.2.2.length=2
 fr:∀ i,i < 2->0 <= gd s.2.2.2.2.2.2.2.2 i/\gd s.2.2.2.2.2.2.2.2 i <= 5
theorem sO_ok {laps:Int} (h2:2 <= laps) (h8:laps <= 8) {k:Nat} (hk:k < 2) {s:OS} (I:SO laps k s):∃ s',sO laps k s=some (.inl s')/\SO laps (k + 1) s':=by
 obtain ⟨bs,T,l1,x1,y1,l2,x2,y2,f⟩:=s
 obtain ⟨hb,hn,hrows,hd,hq,hfl,hfr⟩:=I
 simp only at hb hn hrows hd hq hfl hfr
 unfold sO
 simp only
 have hbl:bs.length=k:=by rw [hb];simp
 rw [wEX (by rw [hbl];simp only [nS,nT];omega),nA]
 unfold wEo
 rw [if_pos (by omega)]
 have hm:(laps - 0).toNat <= 8:=by omega
 rcases wFG (B:=OS ⊕ Bool) (body:=sI k) (fun j s=>SI k (1 + 300 * k) f j s) (fun _=>False) (laps - 0).toNat 0 (l1,x1,y1,l2,x2,y2,f,[],0) ⟨hd.le (by simp),hq.le (by simp),hfl,fun _ _ _=>rfl,hfr,rfl,⟨fun i hi=>by simp at hi,fun hi=>by simp at hi,fun i hi=>by simp at hi⟩,by simp,fun i hi=>by omega,fun hi=>by omega⟩ (fun i s _ hi I=>.inl (sI_ok hk (by omega) (by omega) (by omega) I)) with ⟨s',e,I⟩ | ⟨_,_,h⟩
 ·obtain ⟨m1,u1,v1,m2,u2,v2,g,ts,a⟩:=s'
  obtain ⟨kd,kq,kfl,kfo,kfr,kn,kch,_,_,_⟩:=I
  simp only at kd kq kfl kfo kfr kn kch
  rw [e,wCx]
  simp only
  rw [wEX (by rw [hn];simp only [nS,nT];omega),nA]
  refine ⟨_,rfl,?_,by simp [hn],fun q hq=>?_,kd.le (by omega),kq.le (by omega),kfl,kfr⟩
  ·simp only
   rw [hb,List.range_succ,nq]
   simp
  ·simp only
   by_cases c:q=k
   ·subst c
    have e1:gd (T ++ [ts]) T.length=ts:=wFH T [] ts
    rw [hn] at e1
    rw [e1]
    exact ⟨by omega,kch⟩
   ·rw [wCR (by omega),kfo q (by omega) c]
    exact hrows q (by omega)
 ·exact h.elim
end Go.Proofs.YtglpalgiipahjaaGreat
namespace Go.Proofs.YtglpalgiipahjaaGreat
open Go.KL
theorem wMt {K V:Type} [DecidableEq K] {m:List (K × V)} {x y:K} {v:V}:wFy (mput m x v) y=if y=x then some v else wFy m y:=by
 induction m with
 | nil=>simp only [mput,wFy]
 | cons p m ih =>
  obtain ⟨a,u⟩:=p
  rw [mput]
  by_cases h:x=a
  ·subst h
   rw [if_pos rfl,wFy,wFy]
   split <;> rfl
  ·rw [if_neg h,wFy,wFy,ih]
   by_cases h2:y=a
   ·rw [if_pos h2,if_neg (fun e:y=x=>h (e.symm.trans h2)),if_pos h2]
   ·rw [if_neg h2,if_neg h2]
theorem wMu {l:List Int} (hl:l.length <= 1000) (hd:l.Nodup):wBz l=some false:=by
 unfold wBz
 rw [wCe (by omega)]
 have key:∀ (m k:Nat) (t:List (Int × Bool)),k + m=l.length->(∀ n,wDo t n false=decide (n ∈ l.take k)) ->
   jn (forN (fun k20 l17 =>
  (idx l (↑k20:Int)).bind fun x41 =>
  if (wDo l17 x41 false)=true then
   esc (some true)
  else
   some (.inl (mput l17 x41 true))) m k t) (fun _=>some false)=some false:=by
  intro m
  induction m with
  | zero=>intro k t _ _;rfl
  | succ m ih =>
   intro k t hk ht
   have hlt:k < l.length:=by omega
   have c:gd l k ∉ l.take k:=fun c=>by
    rw [<- List.take_append_drop k l,wOi hlt] at hd
    exact (nz.1 hd).2.2 _ c _ (by simp) rfl
   rw [forN,wBX hlt,nA,ht,if_neg (by simpa using c)]
   simp only
   refine ih (k + 1) _ (by omega) fun n=>?_
   unfold wDo at ht ⊢
   rw [wMt,wFs hlt]
   by_cases e:n=gd l k
   ·rw [if_pos e];simp [e]
   ·rw [if_neg e,ht];simp [e]
 exact key l.length 0 [] (by omega) (fun n=>by simp [wDo,wFy])
theorem wDG {n lo hi:Int} (h1:lo <= n) (h2:n <= hi):wCE n lo hi=some true:=by
 unfold wCE
 rw [if_pos h1]
 simp [h2]
theorem wJM {l:List (List Int)} {f:List Int->Option Bool} (hn:l.length <= 1000) (h:∀ a ∈ l,f a=some true):wBR l f=some true:=by
 unfold wBR
 rw [wFr (by omega) fun k hk=>?_]
 ·rfl
 ·rw [wBX hk,nA,h _ (wAp hk)]
  rfl
theorem wJN {l:List Int} {f:Int->Option Bool} (hn:l.length <= 1000) (h:∀ a ∈ l,f a=some true):wAv l f=some true:=by
 unfold wAv
 rw [wFr (by omega) fun k hk=>?_]
 ·rfl
 ·rw [wBX hk,nA,h _ (wAp hk)]
  rfl
structure wOr (r:wAE):Prop where
 g:wJm r
 laps:1 <= r.Laps/\r.Laps <= 20
 le:∀ l ∈ r.Times,(l.length:Int) <= r.Laps
 bib:∀ b ∈ r.Bibs,1 <= b/\b <= 999
theorem wOs {r:wAE} (G:wOr r):wBS r=some 0:=by
  unfold wBS
  have h1:=G.laps;have h2:=G.g.n;have h3:=G.g.t
  rw [wDG h1.1 h1.2,nA,if_pos rfl,if_neg (by omega),if_pos (by omega),wJM (by omega) fun X hX=>?_,nA,if_pos rfl,wJN (by omega) fun b hb=>?_,nA,if_pos rfl,wJM (by omega) fun X hX=>?_,nA,if_pos rfl,wMu (by omega) G.g.one,nA,if_neg (by decide),wFr (by omega) fun k hk=>?_]
  · rfl
  · have hXm:=wAp hk
    rw [wBX hk,nA]
    have hl:=G.g.len _ hXm
    have hpw:=G.g.inc _ hXm
    generalize gd r.Times k=X at hl hpw
    have hle:((X.length:Int) - 1).toNat <= 9223372036854775807:=by omega
    have key:wEo 1 (X.length:Int) (fun k132 (_:Unit) =>
                    (idx X (1 + ↑k132:Int)).bind fun x155 =>
                    (idx X (w64 ((1 + ↑k132:Int) - 1))).bind fun x163 =>
                    if x155 <= x163 then
                      esc (esc (some 4))
                    else
                      (some (.inl ()):Option (Unit ⊕ (Unit ⊕ Int)))) ()=some (.inl ()):=by
      unfold wEo
      rw [if_pos (by omega)]
      have:=wGy (S:=Unit) (B:=Unit ⊕ Int) (body:=fun k132 (_:Unit) =>
                    (idx X (1 + ↑k132:Int)).bind fun x155 =>
                    (idx X (w64 ((1 + ↑k132:Int) - 1))).bind fun x163 =>
                    if x155 <= x163 then
                      esc (esc (some 4))
                    else
                      some (.inl ())) (fun _=>()) ((X.length:Int) - 1).toNat 0 fun j _ hj=>by
        have e1:(1 + (j:Int))=((j + 1:Nat):Int):=by omega
        rw [wAa (by omega) (by omega),e1,show ((j + 1:Nat):Int) - 1=(j:Int) by omega,wBX (by omega),nA,wBX (by omega),nA,if_neg]
        have:=nB.1 hpw j (j + 1) (by omega) (by omega) (by omega)
        have a1:=wBh (xs:=X) (k:=j) (by omega)
        have a2:=wBh (xs:=X) (k:=j + 1) (by omega)
        rw [nN (by omega)] at a1 a2
        rw [<- nO a1,<- nO a2]
        omega
      exact this
    rw [key]
    rfl
  · have:=G.g.len X hX
    have hr:=G.g.pos X hX
    unfold wAx
    rw [wJN (by omega) fun a ha=>?_]
    · rfl
    · unfold wAm
      have:=hr a ha
      rw [wDG (by omega) (by omega)]
      rfl
  · have:=G.bib b hb
    unfold wAw
    rw [wDG this.1 this.2]
    rfl
  · have:=G.le X hX
    unfold wAu
    simp only [Option.some.injEq,decide_eq_true_eq]
    exact this
theorem wHk {r:wAE} (G:wOr r) {p:wAA} {A:List wAB} (h:wCF r=some (p,A)):wBJ r=some (A,0):=by
 unfold wBJ
 rw [wOs G,nA,if_pos rfl,h];rfl
end Go.Proofs.YtglpalgiipahjaaGreat
namespace Go.Proofs.YtglpalgiipahjaaGreat
open Go.KL
theorem wQK {l:List Int} (h:l.length <= 1000):wAr l=some l:=by
 unfold wAr
 rw [wEX (by simp only [nT];omega),nA,List.nil_append]
theorem wQL {T:List (List Int)} (h:T.length <= 1000) (hl:∀ l ∈ T,l.length <= 1000):wAY T=some T:=by
 unfold wAY
 rw [wHd (n:=T.length) (s0:=[]) (fun k=>T.take k) (by simp) (by omega) (fun i hi=>by
  rw [wBX hi,nA,wQK (hl _ (wAp hi)),nA,wEX (by simp only [List.length_take,nS,nT];omega),nA,wFs hi]),nA,nL]
theorem wHl {l:List Int} (h:∀ i,i + 1 < l.length->gd l i < gd l (i + 1)):l.Pairwise (· < ·):=by
 have key:∀ (j i:Nat),i < j->j < l.length->gd l i < gd l j:=by
  intro j
  induction j with
  | zero=>intro i hi;omega
  | succ j ih =>
   intro i hi hj
   have h1:=h j hj
   by_cases c:i=j
   ·rw [c];exact h1
   ·have:=ih i (by omega) (by omega);omega
 rw [nB]
 intro i j hi hj hij
 have:=key j i hij hj
 rwa [wBg hi,wBg hj] at this
structure SF (T:List (List Int)) (k:Nat) (f:Int) (i:Nat) (s:List (List Int) × Int):Prop where
 x:s.2=1 + (i:Int)
 n:s.1.length=2
 same:∀ q,q < 2->q ≠ k->gd s.1 q=gd T q
 len:(gd s.1 k).length=(gd T k).length
 el:∀ t,t < (gd T k).length->gd (gd s.1 k) t=if 1 <= t/\t < 1 + i then gd (gd T k) t - 250 * f else gd (gd T k) t
noncomputable def sFin (x33 x579:Int) (y546:List Int) (l589 l726:List (List Int)):Option Bool :=
 (wBJ (⟨x33,y546,l589⟩:wAE)).bind fun (x786,x787) =>
   (wBJ (⟨x33,y546,l726⟩:wAE)).bind fun (x808,x809) =>
   if x787=0 then
    if x809=0 then
     (wAK x786 x579).bind fun x837 =>
     if x837=true then
      (wBF).bind fun x849 =>
      some x849
     else
      (wAK x808 x579).bind fun x867 =>
      if x867=true then
       some false
      else
       (wBF).bind fun x880 =>
       some x880
    else
     some false
   else
    some false
noncomputable def sFB (x33 x579:Int) (y546:List Int) (y554:List Int) (l589:List (List Int)):(List (List Int) × Int)->Option ((List (List Int) × Int) ⊕ Bool)
 | (l726,x727) =>
  if x727 < x33 then
   (chk x579 l726.length).bind fun _ =>
   (chk x727 (gd l726 x579.toNat).length).bind fun _ =>
   (chk x579 y554.length).bind fun _ =>
   some (.inl ((nR l726 x579.toNat (nR (gd l726 x579.toNat) x727.toNat (w64 ((gd (gd l726 x579.toNat) x727.toNat) - (w64 (250 * (gd y554 x579.toNat))))))),w64 (x727 + 1)))
  else
   esc (sFin x33 x579 y546 l589 l726)
theorem wGz (p0 p1:List Int) (p2:Int):wAo p0 p1 p2 =
 (wBM p0).bind fun x1 =>
 (wBM p1).bind fun x17 =>
 (wAH x1 2 8).bind fun (x33,x34) =>
 (mkz 8 2 (0:Int)).bind fun x55 =>
 jn (wEo 0 2 (sO x33) ([],[],x34.bytes,x34.next,x34.state,x17.bytes,x17.next,x17.state,x55)) fun (y546,y547,_,_,_,_,_,_,y554) =>
 (rem (w64 p2) 2).bind fun x579 =>
 ((wAY y547).bind fun x607 =>
 some (y547,x607)).bind fun (l589,l594) =>
 iter (sFB x33 x579 y546 y554 l589) big (l594,1):=rfl
theorem wNY (A:List wAB) (k:Nat) (hk:k < 2) (hA:A.length <= 100000):wAK A (k:Int)=some (A.any fun o=>decide (o.Bib=(k:Int) + 1)):=by
 unfold wAK wAR wAU
 have:=wGX (R:=Int) (l:=A) (f:=fun x=>wAL x (k:Int)) (p:=fun o=>decide (o.Bib=(k:Int) + 1)) (fun a _=>by
  unfold wAL
  rw [wAa (by omega) (by omega)]) (by omega) id
 simp only [id] at this
 rw [this]
 simp only [nA,wFq]
theorem wJO {f:Int} {l:List Int} (h:Ch f l):l.Pairwise (· < ·):=wHl fun i hi=>by have:=h.nx i hi;omega
theorem wJp (p0 p1:List Int) (p2:Int) (h0:0 <= p2) (h1:p2 <= 255):wAo p0 p1 p2=some true:=by
 rw [wGz]
 unfold wBM
 rw [nA,nA]
 obtain ⟨laps,d',e,k1,l2,l8⟩:=wJL (d:=(⟨p0,0,17⟩:wAC)) (N:=0) ⟨by simp,by simp⟩ (by omega) (a:=2) (b:=8) (by omega) (by omega) (by omega)
 rw [e,nA]
 simp only
 rw [mkz,if_pos (by omega),nA]
 have eo:∃ s',wEo 0 2 (sO laps) (([],[],d'.bytes,d'.next,d'.state,p1,0,17,nP (2:Int).toNat 0):OS)=some (.inl s')/\SO laps 2 s':=by
  unfold wEo
  rw [if_pos (by omega)]
  rcases wFG (B:=Bool) (body:=sO laps) (fun k s=>SO laps k s) (fun _=>False) ((2:Int) - 0).toNat 0 (([],[],d'.bytes,d'.next,d'.state,p1,0,17,nP (2:Int).toNat 0):OS) ⟨rfl,rfl,fun q hq=>by omega,k1.le (by omega),⟨by simp,by simp⟩,rfl,fun i hi=>by
   have:i=0 \/ i=1:=by omega
   rcases this with rfl | rfl <;> simp [gd]⟩ (fun i s _ hi I=>.inl (sO_ok l2 l8 (by omega) I)) with ⟨s',e,I⟩ | ⟨_,_,h⟩
  ·exact ⟨s',e,I⟩
  ·exact h.elim
 obtain ⟨⟨bs,T,m1,u1,v1,m2,u2,v2,f⟩,eo,I⟩:=eo
 obtain ⟨hb,hn,hrows,_,_,hfl,hfr⟩:=I
 simp only at hb hn hrows hfl hfr
 rw [eo,wCx]
 simp only
 rw [wAa (by omega) (by omega)]
 obtain ⟨x,ex,x0,x1⟩:=wHj (a:=p2) (b:=2) h0 (by omega)
 rw [ex,nA]
 obtain ⟨k,rfl⟩:=Int.eq_ofNat_of_zero_le x0
 have hk:k < 2:=by omega
 have two:∀ {U:List (List Int)} {l:List Int},U.length=2->l ∈ U->∃ q,q < 2/\gd U q=l:=fun {U l} h hl=>by
  obtain ⟨i,hi,e⟩:∃ i,∃ h:i < U.length,U[i]=l:=nD hl
  exact ⟨i,by omega,by rw [wBg hi,e]⟩
 have hlen:∀ q,q < 2->(gd T q).length <= 8:=fun q hq=>by have:=(hrows q hq).1;omega
 rw [wQL (by omega) (fun l hl=>by obtain ⟨q,hq,rfl⟩:=two hn hl;have:=hlen q hq;omega),nA,nA]
 simp only
 have bs':bs=[1,2]:=hb
 subst bs'
 have gb:∀ i,i < 2->gd ([1,2]:List Int) i=(i:Int) + 1:=fun i hi=>by
  have:i=0 \/ i=1:=by omega
  rcases this with rfl | rfl <;> rfl
 have wFx:∀ U:List (List Int),U.length=2->(∀ q,q < 2->(gd U q).length=(gd T q).length/\(gd U q).Pairwise (· < ·)/\∀ i,i < (gd U q).length->0 <= gd (gd U q) i/\gd (gd U q) i <= 100000)->wOr (⟨laps,[1,2],U⟩:wAE):=by
  intro U hU hr
  have el:∀ l ∈ U,∃ q,q < 2/\l=gd U q:=fun l hl=>by obtain ⟨q,hq,e⟩:=two hU hl;exact ⟨q,hq,e.symm⟩
  refine ⟨⟨by simp,hU,fun l hl=>?_,fun l hl=>?_,fun l hl x hx=>?_,by simp⟩,⟨by simp only;omega,by simp only;omega⟩,fun l hl=>?_,fun b hb=>?_⟩
  ·obtain ⟨q,hq,rfl⟩:=el l hl
   have:=hlen q hq;have:=(hr q hq).1;omega
  ·obtain ⟨q,hq,rfl⟩:=el l hl
   exact (hr q hq).2.1
  ·obtain ⟨q,hq,rfl⟩:=el l hl
   obtain ⟨i,hi,e⟩:=nD hx
   rw [<- wBg hi] at e
   have:=(hr q hq).2.2 i hi
   omega
  ·obtain ⟨q,hq,rfl⟩:=el l hl
   have:=(hr q hq).1;have:=(hrows q hq).1;simp only;omega
  ·simp at hb;omega
 have GT:=wFx T hn fun q hq=>⟨rfl,wJO (hrows q hq).2,fun i hi=>by
  have:=(hrows q hq).2.rg i hi;have:=hlen q hq;omega⟩
 have hf:=hfr k hk
 have hlk:=(hrows k hk).1
 have hck:=(hrows k hk).2
 have fin:∀ U:List (List Int),SF T k (gd f k) (laps - 1).toNat (U,laps)->sFin laps (k:Int) [1,2] T U=some true:=by
  intro U S
  obtain ⟨_,Sn,Ss,Sl,Se⟩:=S
  simp only at Sn Ss Sl Se
  have Se':∀ t,t < (gd T k).length->gd (gd U k) t=if 1 <= t then gd (gd T k) t - 250 * gd f k else gd (gd T k) t:=fun t ht=>by
   rw [Se t ht]
   by_cases c:1 <= t
   ·rw [if_pos c,if_pos ⟨c,by omega⟩]
   ·rw [if_neg c,if_neg (by omega)]
  have uinc:(gd U k).Pairwise (· < ·):=wHl fun i hi=>by
   rw [Se' (i + 1) (by omega),if_pos (by omega),Se' i (by omega)]
   have n1:=hck.nx i (by omega)
   by_cases c:1 <= i
   ·rw [if_pos c];omega
   ·have i0:i=0:=by omega
    subst i0
    rw [if_neg c]
    have h01:=hck.fi (by omega)
    rw [ny];omega
  have GU:=wFx U Sn fun q hq=>by
   by_cases c:q=k
   ·subst c
    refine ⟨Sl,uinc,fun i hi=>?_⟩
    rw [Se' i (by omega)]
    have r1:=hck.rg i (by omega)
    have:=hlen q hq
    by_cases c:1 <= i
    ·rw [if_pos c]
     refine ⟨?_,by omega⟩
     have g0:=hck.rg 0 (by omega)
     have g1:=hck.fi (by omega)
     have mono:gd (gd T q) 1 <= gd (gd T q) i:=by
      by_cases c1:i=1
      ·rw [c1];exact nH _
      ·have:=nB.1 (wJO hck) 1 i (by omega) (by omega) (by omega)
       rw [<- wBg (by omega),<- wBg (by omega)] at this
       omega
     omega
    ·rw [if_neg c];omega
   ·rw [Ss q hq c]
    exact ⟨rfl,wJO (hrows q hq).2,fun i hi=>by have:=(hrows q hq).2.rg i hi;have:=hlen q hq;omega⟩
  obtain ⟨p,A,τ,e1,R⟩:=wNT GT.g
  obtain ⟨p',A',τ',e2,R'⟩:=wNT GU.g
  unfold sFin
  rw [wHk GT e1,nA]
  simp only
  rw [wHk GU e2,nA]
  simp only
  rw [if_pos trivial,if_pos trivial,wNY A k hk R.al,nA]
  by_cases c:(A.any fun o=>decide (o.Bib=(k:Int) + 1))=true
  ·rw [if_pos c];rfl
  ·rw [if_neg c,wNY A' k hk R'.al,nA]
   have no:τ k=none:=by
    cases hq:τ k with
    | none=>rfl
    | some t =>
     exfalso
     obtain ⟨o,ho,eo⟩:=R.ents.all k (by simpa using hk) (by rw [hq];simp)
     apply c
     rw [List.any_eq_true]
     refine ⟨o,ho,?_⟩
     simp only [decide_eq_true_eq]
     rw [eo];exact gb k hk
   have no':τ' k=none:=by
    refine wQG (k:=k) (j:=1 - k) R.found R'.found (by omega) hk (by omega) rfl rfl (Ss (1 - k) (by omega) (by omega)) uinc (fun t=>?_) hn Sn no
    rcases nh (cn (gd U k) t) (cn (gd T k) t) with q | q
    ·exfalso
     have hle:=wHe (gd T k) t
     have hlt:cn (gd U k) t < (gd T k).length:=by omega
     have a1:=(wHf (t:=t) (wJO hck) hlt).1 q
     have a2:gd (gd U k) (cn (gd U k) t) <= t:=by
      rw [Se' _ hlt]
      split <;> omega
     have:=(wHf (t:=t) uinc (by omega)).2 a2
     omega
    ·exact q
   have c':¬ (A'.any fun o=>decide (o.Bib=(k:Int) + 1))=true:=by
    intro h
    obtain ⟨o,ho,eo⟩:=List.any_eq_true.1 h
    simp only [decide_eq_true_eq] at eo
    obtain ⟨i,hi,E⟩:=R'.ents.of o ho
    have hi2:i < 2:=by simpa using hi
    have hb:=E.bib
    rw [eo] at hb
    have hb2:gd ([1,2]:List Int) i=(k:Int) + 1:=hb.symm
    rw [gb i hi2] at hb2
    have:i=k:=by omega
    subst this
    have:=E.time
    rw [no'] at this
    cases this
   rw [if_neg c'];rfl
 refine wIc (I:=fun i s=>SF T k (gd f k) i s) (laps - 1).toNat ⟨by simp,hn,fun _ _ _=>rfl,rfl,fun t ht=>by rw [if_neg (by omega)]⟩ (by omega) ?_
 rintro i ⟨U,y⟩ hi ⟨Sx,Sn,Ss,Sl,Se⟩
 simp only at Sx Sn Ss Sl Se
 unfold sFB
 simp only
 by_cases c:y < laps
 ·left
  refine ⟨by omega,?_⟩
  have ekt:((k:Int)).toNat=k:=nE k
  have eyt:y.toNat=1 + i:=by omega
  rw [if_pos c,wCW (by omega) (by omega),nA,ekt,wCW (by omega) (by omega),nA,wCW (by omega) (by omega),nA,eyt]
  have hrg:=hck.rg (1 + i) (by omega)
  have hle8:=hlen k hk
  have ev:gd (gd U k) (1 + i)=gd (gd T k) (1 + i):=by rw [Se _ (by omega),if_neg (by omega)]
  rw [ev,wAa (x:=250 * gd f k) (by omega) (by omega),wAa (x:=gd (gd T k) (1 + i) - 250 * gd f k) (by omega) (by omega),wAa (by omega) (by omega)]
  have gk:∀ W:List Int,gd (U.set k W) k=W:=fun W=>by rw [wEv (by omega) (by omega),if_pos rfl]
  refine ⟨_,rfl,by simp only;omega,by simp [Sn],fun q hq hqk=>?_,?_,fun t ht=>?_⟩
  ·simp only
   rw [wEv (by omega) (by omega),if_neg hqk];exact Ss q hq hqk
  ·simp only
   rw [gk,List.length_set];exact Sl
  ·simp only
   rw [gk,wEv (by omega) (by omega)]
   by_cases c1:t=1 + i
   ·rw [if_pos c1,if_pos ⟨by omega,by omega⟩,c1]
   ·rw [if_neg c1,Se t ht]
    by_cases c2:1 <= t/\t < 1 + i
    ·rw [if_pos c2,if_pos ⟨c2.1,by omega⟩]
    ·rw [if_neg c2,if_neg (by omega)]
 ·right
  have ei:i=(laps - 1).toNat:=by omega
  have ey:y=laps:=by omega
  rw [if_neg c,fin U (by rw [<- ei];exact ⟨by simp only;omega,Sn,Ss,Sl,Se⟩)]
  rfl
end Go.Proofs.YtglpalgiipahjaaGreat
