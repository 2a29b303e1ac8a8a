import Derived.Test.YtkghaiefcjgfkaaGreatQ2
import Derived.Test.YtkghaiefcjgfkaaGreatQ0
import Derived.Lib.SlicesCompact
import Derived.Test.YtkghaiefcjgfkaaGreatQ1
set_option linter.all false
open Option renaming bind_some->hD,getD_none->kA
open Int renaming toNat_natCast->hJ,toNat_of_nonneg->nG,le_refl->nO,sub_add_cancel->nS,add_comm->nh,tmod_eq_emod_of_nonneg->nn,le_of_lt->nz,lt_or_le->kO,tmod_lt_of_pos->kQ
open List renaming mem_singleton->nA,pairwise_iff_getElem->nB,length_cons->nD,mem_append->nH,length_take->nI,getElem_of_mem->nJ,replicate->nK,length_nil->nL,set->nM,take_length->nN,length_append->nQ,mem_map->nR,nodup_iff_pairwise_ne->nT,range->nU,flatMap->nV,all_eq_true->nW,getElem_map->nX,length_singleton->nY,length_drop->nZ,length_map->ng,countP_eq_zero->ni,getElem?_take->nj,pairwise_cons->nk,getElem?_append_right->nl,mem_cons->nm,append_assoc->np,nodup_append->nq,getElem?_append_left->nu,not_mem_nil->nv,cons_append->nw,getElem?_eq_getElem->ny,pairwise_singleton->kB,pairwise_mergeSort->kC,map_append->kD,append_nil->kE,sum_replicate_nat->kF,range_eq_range'->kG,pairwise_append->kH,all_cons->kI,length_flatMap->kK,mergeSort_perm->kL,all_nil->kP,flatMap_cons->kS
open Bool renaming and_eq_true->nE,false_eq_true->nP,noConfusion->nf,not_eq_true'->nt,and_true->kJ
open Option.some renaming inj->na
open Nat renaming zero_add->nc,lt_or_ge->kR,le_refl->kT
open Go.Value renaming int->kM
namespace Go.KL
open Go.RowKit Go.Lib Go.Sort
def wGl (l:List Int):Option (List Int):=if l.length < 4611686018427387904 then some (Go.Lib.compact l) else none
theorem wJE (l:List Int):(Go.Lib.compact l).length <= l.length:=by
 unfold Go.Lib.compact Go.Lib.compactUpTo
 rw [ng]
 exact Nat.le_trans (List.length_filter_le _ _) (by simp)
theorem wJF {P:Program} {f T:Nat} {A:Option Addr} {c:Nat} {p r:List Int} {w:World} {U:PHeap}
  (H:∀ (blk off cap:Nat) (zs:List Int) (w:World),Go.Sort.Holds (kM .i64) w blk off zs.toArray->zs.length <= 9223372036854775807->zs.length <= cap->Calls P f #[.slice (some ⟨blk,off,none⟩) zs.length cap] w fun e w'=>e=.returned (.slice (some ⟨blk,off,none⟩) (Go.Lib.compact zs).length cap)/\∃ q,w'=Go.Sort.putRow (kM .i64) (Go.Sort.ahead w q) blk off (Go.Lib.compact zs ++ nK (zs.length - (Go.Lib.compact zs).length) 0).toArray)
  (HN:∀ (p:Option Addr) (cap:Nat) (w:World),Calls P f #[.slice p 0 cap] w fun e w'=>e=.returned (.slice p 0 cap)/\w'=w)
  (hS:St ⟨w,[.row A c T 1 (nV encI p)],U⟩ U [.row A c T 1 (nV encI p)] w) (hm:wGl p=some r) :
  Gv P f [.slice A p.length c] w (wBa w [.row A c T 1 (nV encI p)] U fun U_ L_ v=>∃ (A0:Option Addr) (c0:Nat),v=.slice A0 r.length c0/\L_=[.row A0 c0 T 1 (nV encI r)]):=by
 unfold wGl at hm
 split at hm
 ·rename_i hlen
  cases hm
  have hfl:∀ l:List Int,l.flatMap encI=l.map (kM .i64):=fun l=>wGu l
  have hr:=hS.at_ _ (List.mem_cons_self ..)
  have nil:p=[]->Gv P f [.slice A p.length c] w (wBa w [.row A c T 1 (nV encI p)] U fun U_ L_ v=>∃ (A0:Option Addr) (c0:Nat),v=.slice A0 (Go.Lib.compact p).length c0/\L_=[.row A0 c0 T 1 (nV encI (Go.Lib.compact p))]):=by
   rintro rfl
   refine Calls.mono' (HN A c w) ?_
   rintro e w' ⟨rfl,rfl⟩
   exact ⟨_,rfl,U,_,hS,A,c,rfl,rfl⟩
  rcases hr with ⟨rfl,rfl,h0⟩ | ⟨b,cur,rfl,h1,h2,_⟩
  ·refine nil ?_
   rw [hfl] at h0
   simpa using h0
  ·obtain ⟨g1,g2⟩:=hS.holds (k:=0) rfl
   rw [hfl] at g1 h2
   refine Calls.mono' (H b 0 c p w (wIY _ _ _ _ _ (by simpa using g1)) (by omega) (by simpa using h2)) ?_
   rintro e w' ⟨rfl,n,rfl⟩
   have hl:=wJE p
   have s1:=hS.sorted (k:=0) (n:=n) (os:=#[]) (cs':=(Go.Lib.compact p ++ nK (p.length - (Go.Lib.compact p).length) 0).map (kM .i64)) rfl (by rw [hfl];simp;omega)
   have e0:∀ x:World,Go.Sort.grow x #[]=x:=fun x=>by simp [Go.Sort.grow]
   rw [e0,kD] at s1
   have s2:=s1.cutRow (k:=0) rfl
   refine ⟨_,rfl,U,[.row (some ⟨b,0,none⟩) c T 1 (nV encI (Go.Lib.compact p))],?_,_,c,rfl,rfl⟩
   rw [wHn,hfl (Go.Lib.compact p)]
   simpa using s2
 ·cases hm
end Go.KL
namespace Go.Proofs.YtkghaiefcjgfkaaGreat
open Go.KL
noncomputable section
structure wAJ where
 bytes:List Int
 next:Int
 state:Int
deriving DecidableEq,Inhabited,Repr
structure wAI where
 Lo:Int
 Hi:Int
deriving DecidableEq,Inhabited,Repr
structure wAL where
 Offset:wAI
 Error:Int
deriving DecidableEq,Inhabited,Repr
structure wAK where
 Skier:Int
 Mat:Int
 Clock:Int
 Time:Int
deriving DecidableEq,Inhabited,Repr
structure wAE where
 Starts:List Int
 Splits:List wAI
 Clocks:List wAL
 Readings:List wAK
deriving DecidableEq,Inhabited,Repr
structure wAP where
 Skier:Int
 Mat:Int
deriving DecidableEq,Inhabited,Repr
structure wAH where
 skier:Int
 mat:Int
deriving DecidableEq,Inhabited,Repr
structure wAG where
 Kind:Int
 Skier:Int
 Index:Int
 Up:Bool
deriving DecidableEq,Inhabited,Repr
structure wAg where
 step:wAG
 from_:Int
 to_:Int
 count:Int
deriving DecidableEq,Inhabited,Repr
structure wAh where
 Race:wAE
 number:List (wAH × Int)
 edges:List wAg
structure wDR where
 far:List Int
 by_:List Int
deriving DecidableEq,Inhabited,Repr
structure wAT where
 Laps:Int
 Bibs:List Int
 Times:List (List Int)
deriving DecidableEq,Inhabited,Repr
structure wAN where
 Race:wAT
 done:List Int
 out:List Bool
deriving DecidableEq,Inhabited,Repr
structure wAO where
 Bib:Int
 Done:Int
 Time:Int
 By:Int
deriving DecidableEq,Inhabited,Repr
def wDV (p0:List Int):Option (wAJ) :=
 some (⟨p0,0,17⟩:wAJ)
def wAQ (p0:wAJ) (p1:Int):Option (Int × wAJ) :=
 if p1 <= 1 then
  some (0,p0)
 else
  if (↑p0.bytes.length:Int)=0 then
   some (0,p0)
  else
   (rem p0.next (↑p0.bytes.length:Int)).bind fun x10 =>
   (idx p0.bytes x10).bind fun x13 =>
   (quo p0.next (↑p0.bytes.length:Int)).bind fun x20 =>
   (rem (wFJ ((wFJ ((wFJ ((wFJ (p0.state * 45)) + (wFJ x13))) + (wFJ (77 * (wFJ x20))))) + 1)) 65519).bind fun x32 =>
   if (wFJ x20)=0 then
    if p1 <= 256 then
     (rem (w64 (wFJ x13)) p1).bind fun x42 =>
     some (x42,(⟨p0.bytes,w64 (p0.next + 1),x32⟩:wAJ))
    else
     (rem (w64 (wFJ ((wFJ (x32 * 256)) + (wFJ x13)))) p1).bind fun x46 =>
     some (x46,(⟨p0.bytes,w64 (p0.next + 1),x32⟩:wAJ))
   else
    (rem (w64 (wFJ ((wFJ (x32 * 256)) + (wFJ x13)))) p1).bind fun x50 =>
    some (x50,(⟨p0.bytes,w64 (p0.next + 1),x32⟩:wAJ))
def wAS (p0:wAJ) (p1:Int) (p2:Int):Option (Int × wAJ) :=
 (wAQ p0 (w64 ((w64 (p2 - p1)) + 1))).bind fun (x2,x3) =>
 some (w64 (p1 + x2),x3)
def wCI (p0:wAJ) (p1:Int) (p2:Int) (p3:Int):Option (wAE × (List (List Int)) × (List Int) × wAJ) :=
 (wAS p0 1 p1).bind fun (x10,x11) =>
 (wBg 0 x10 (fun k62 (l53,x56,x57,l58) =>
  (wAQ (⟨l53,x56,x57⟩:wAJ) 4).bind fun (x142,x143) =>
  (wAQ x143 3).bind fun (x156,x157) =>
  (app 8 l58 [w64 ((w64 (300 * x142)) + x156)]).bind fun x175 =>
  some (x157.bytes,x157.next,x157.state,x175)) (x11.bytes,x11.next,x11.state,[])).bind fun (y67,y68,y69,y70) =>
 (wAQ (⟨y67,y68,y69⟩:wAJ) p2).bind fun (x223,x224) =>
 (wBg 0 x223 (fun k274 (l265,x268,x269,l270) =>
  (wAS (⟨l265,x268,x269⟩:wAJ) 3 9).bind fun (x305,x306) =>
  (wAQ x306 30).bind fun (x353,x354) =>
  (app 16 l270 [(⟨w64 (100 * x305),w64 ((w64 (100 * x305)) + (w64 (10 * x353)))⟩:wAI)]).bind fun x372 =>
  some (x354.bytes,x354.next,x354.state,x372)) (x224.bytes,x224.next,x224.state,[])).bind fun (y279,y280,y281,y282) =>
 (wBg 0 (↑y70.length:Int) (fun k460 (l450,x453,x454,l455) =>
  (chk (↑k460:Int) y70.length).bind fun _ =>
  (wBg 0 (↑y282.length:Int) (fun k541 (l532,x535,x536,x537,l538) =>
   (chk (↑k541:Int) y282.length).bind fun _ =>
   (wAS (⟨l532,x535,x536⟩:wAJ) ((gd y282 k541).Lo) ((gd y282 k541).Hi)).bind fun (x589,x590) =>
   (app 8 l538 [w64 (x537 + x589)]).bind fun x609 =>
   some (x590.bytes,x590.next,x590.state,w64 (x537 + x589),x609)) (l450,x453,x454,(gd y70 k460),[(gd y70 k460)])).bind fun (y546,y547,y548,y549,y550) =>
  (app 24 l455 [y550]).bind fun x672 =>
  some (y546,y547,y548,x672)) (y279,y280,y281,[])).bind fun (y465,y466,y467,y468) =>
 (wAS (⟨y465,y466,y467⟩:wAJ) 1 3).bind fun (x726,x727) =>
 (wBg 0 x726 (fun k792 (l779,x782,x783,l784,l788) =>
  (wAS (⟨l779,x782,x783⟩:wAJ) (-60) 20).bind fun (x826,x827) =>
  (wAQ x827 50).bind fun (x840,x841) =>
  (wAQ x841 6).bind fun (x854,x855) =>
  (app 24 l784 [(⟨(⟨x826,w64 (x826 + x840)⟩:wAI),x854⟩:wAL)]).bind fun x880 =>
  (wAS x855 x826 (w64 (x826 + x840))).bind fun (x888,x889) =>
  (app 8 l788 [x888]).bind fun x908 =>
  some (x889.bytes,x889.next,x889.state,x880,x908)) (x727.bytes,x727.next,x727.state,[],[])).bind fun (y797,y798,y799,y800,y801) =>
 (wAQ (⟨y797,y798,y799⟩:wAJ) (w64 (p3 + 1))).bind fun (x1667,x1668) =>
 (wBg 0 x1667 (fun k1736 (l1727,x1730,x1731,l1732) =>
  ((wAQ (⟨l1727,x1730,x1731⟩:wAJ) (↑y70.length:Int)).bind fun (x1833,x1834) =>
  (wAQ x1834 (w64 ((↑y282.length:Int) + 1))).bind fun (x1847,x1848) =>
  (wAQ x1848 (↑y800.length:Int)).bind fun (x1861,x1862) =>
  some (x1862.bytes,x1862.next,x1862.state,x1833,x1847,x1861)).bind fun (l1767,x1770,x1771,x1774,x1775,x1776) =>
  (chk x1776 y800.length).bind fun _ =>
  (idx y468 x1774).bind fun x2140 =>
  (idx x2140 x1775).bind fun x2156 =>
  (chk x1776 y801.length).bind fun _ =>
  (wAS (⟨l1767,x1770,x1771⟩:wAJ) (w64 (-((gd y800 x1776.toNat).Error))) ((gd y800 x1776.toNat).Error)).bind fun (x2171,x2172) =>
  if (w64 (-((gd y800 x1776.toNat).Error))) <= (w64 ((w64 ((max 0 (w64 ((w64 (x2156 + (gd y801 x1776.toNat))) + x2171))) - x2156)) - (gd y801 x1776.toNat))) then
   if (w64 ((w64 ((max 0 (w64 ((w64 (x2156 + (gd y801 x1776.toNat))) + x2171))) - x2156)) - (gd y801 x1776.toNat))) <= ((gd y800 x1776.toNat).Error) then
    (app 32 l1732 [(⟨x1774,x1775,x1776,max 0 (w64 ((w64 (x2156 + (gd y801 x1776.toNat))) + x2171))⟩:wAK)]).bind fun x2225 =>
    some (x2172.bytes,x2172.next,x2172.state,x2225)
   else
    some (x2172.bytes,x2172.next,x2172.state,l1732)
  else
   some (x2172.bytes,x2172.next,x2172.state,l1732)) (x1668.bytes,x1668.next,x1668.state,[])).bind fun (y1741,y1742,y1743,y1744) =>
 some ((⟨y70,y282,y800,y1744⟩:wAE),y468,y801,(⟨y1741,y1742,y1743⟩:wAJ))
def wBC :Option (wAE) :=
 some (⟨[0,300],[(⟨1000,1200⟩:wAI),(⟨900,1500⟩:wAI)],[(⟨(⟨-5,5⟩:wAI),1⟩:wAL)],[(⟨0,2,0,2250⟩:wAK),(⟨1,1,0,1400⟩:wAK),(⟨1,2,0,2499⟩:wAK)]⟩:wAE)
def wAd (p0:Int) (p1:Int):Option (wAP) :=
 some (⟨p0,p1⟩:wAP)
def wBR (p0:Int) (p1:Int) (p2:Int):Option (Bool) :=
 if p1 <= p0 then
  some (decide (p0 <= p2))
 else
  some false
def wCW (p0:List Int) (p1:(Int->Option Bool)):Option (Bool) :=
 jn (wEG 0 (↑p0.length:Int) (fun k2 _ =>
  (idx p0 (↑k2:Int)).bind fun x22 =>
  (p1 x22).bind fun x30 =>
  if x30=true then
   some (.inl ())
  else
   esc (some false)) ()) fun _ =>
 some true
def wCk (p0:Int):Option (Bool) :=
 (wBR p0 0 360000).bind fun x1 =>
 some x1
def wBc (p0:List wAI) (p1:(wAI->Option Bool)):Option (Bool) :=
 jn (wEG 0 (↑p0.length:Int) (fun k2 _ =>
  (idx p0 (↑k2:Int)).bind fun x22 =>
  (p1 x22).bind fun x37 =>
  if x37=true then
   some (.inl ())
  else
   esc (some false)) ()) fun _ =>
 some true
def wCl (p0:wAI) (p1:Int) (p2:Int):Option (Bool) :=
 if p0.Lo <= p0.Hi then
  if p1 <= p0.Lo then
   some (decide (p0.Hi <= p2))
  else
   some false
 else
  some false
def wCm (p0:wAI):Option (Bool) :=
 (wCl p0 0 360000).bind fun x5 =>
 some x5
def wBS (p0:List wAL) (p1:(wAL->Option Bool)):Option (Bool) :=
 jn (wEG 0 (↑p0.length:Int) (fun k2 _ =>
  (idx p0 (↑k2:Int)).bind fun x22 =>
  (p1 x22).bind fun x37 =>
  if x37=true then
   some (.inl ())
  else
   esc (some false)) ()) fun _ =>
 some true
def wCn (p0:wAL):Option (Bool) :=
 (wCl p0.Offset (-36000) 36000).bind fun x5 =>
 if x5=true then
  (wBR p0.Error 0 600).bind fun x17 =>
  some x17
 else
  some false
def wAx (p0:List wAK) (p1:(wAK->Option Bool)):Option (Bool) :=
 jn (wEG 0 (↑p0.length:Int) (fun k2 _ =>
  (idx p0 (↑k2:Int)).bind fun x22 =>
  (p1 x22).bind fun x37 =>
  if x37=true then
   some (.inl ())
  else
   esc (some false)) ()) fun _ =>
 some true
def wCo (p0:wAK):Option (Bool) :=
 (wBR p0.Time 0 360000).bind fun x5 =>
 some x5
def wAn (p0:wAE) (p1:wAP):Option (Bool) :=
 (wBR p1.Skier 0 (w64 ((↑p0.Starts.length:Int) - 1))).bind fun x9 =>
 if x9=true then
  (wBR p1.Mat 0 (↑p0.Splits.length:Int)).bind fun x21 =>
  some x21
 else
  some false
def wCp (p0:wAK) (p1:wAE):Option (Bool) :=
 (wAn p1 (⟨p0.Skier,p0.Mat⟩:wAP)).bind fun x5 =>
 if x5=true then
  (wBR p0.Clock 0 (w64 ((↑p1.Clocks.length:Int) - 1))).bind fun x18 =>
  some x18
 else
  some false
def wCd (p0:wAE):Option (Int) :=
 (wBR (↑p0.Starts.length:Int) 1 8).bind fun x10 =>
 if x10=true then
  if 7 < (↑p0.Splits.length:Int) then
   some 2
  else
   if 4 < (↑p0.Clocks.length:Int) then
    some 2
   else
    if 40 < (↑p0.Readings.length:Int) then
     some 2
    else
     (wCW p0.Starts wCk).bind fun x35 =>
     if x35=true then
      (wBc p0.Splits wCm).bind fun x52 =>
      if x52=true then
       (wBS p0.Clocks wCn).bind fun x70 =>
       if x70=true then
        (wAx p0.Readings wCo).bind fun x92 =>
        if x92=true then
         (wAx p0.Readings (fun x=>wCp x p0)).bind fun x116 =>
         if x116=true then
          some 0
         else
          some 1
        else
         some 3
       else
        some 3
      else
       some 3
     else
      some 3
 else
  some 2
def wCf :Option (wAH) :=
 some (⟨-1,0⟩:wAH)
def wCJ {S E:Type} (f:S->wAG->Option (S ⊕ E)) (s0:S) (p1:wAE):Option (S ⊕ E) :=
 jn (wEG 0 4 (fun k12 s10 =>
  (idx ([1,(↑p1.Splits.length:Int),(↑p1.Clocks.length:Int),(↑p1.Readings.length:Int)]:List Int) (↑k12:Int)).bind fun x33 =>
  (if (↑k12:Int)=2 then
   some (true,s10)
  else
   some (decide ((↑k12:Int)=3),s10)).bind fun (b37,s38) =>
  if b37=true then
   jn (wEG 0 1 (fun k78 s76 =>
    jn (wEG 0 x33 (fun k113 s111 =>
     (f s111 (⟨(↑k12:Int),(↑k78:Int),(↑k113:Int),true⟩:wAG)).bind fun yr141 =>
     match yr141 with
     | .inl s151 =>
      (f s151 (⟨(↑k12:Int),(↑k78:Int),(↑k113:Int),false⟩:wAG)).bind fun yr154 =>
      match yr154 with
      | .inl s164 =>
       some (.inl s164)
      | .inr s164 =>
       esc (esc (esc (some (.inr s164))))
     | .inr s151 =>
      esc (esc (esc (some (.inr s151))))) s76) fun y195 =>
    some (.inl y195)) s38) fun y219 =>
   some (.inl y219)
  else
   jn (wEG 0 (↑p1.Starts.length:Int) (fun k247 s245 =>
    jn (wEG 0 x33 (fun k282 s280 =>
     (f s280 (⟨(↑k12:Int),(↑k247:Int),(↑k282:Int),true⟩:wAG)).bind fun yr310 =>
     match yr310 with
     | .inl s320 =>
      (f s320 (⟨(↑k12:Int),(↑k247:Int),(↑k282:Int),false⟩:wAG)).bind fun yr323 =>
      match yr323 with
      | .inl s333 =>
       some (.inl s333)
      | .inr s333 =>
       esc (esc (esc (some (.inr s333))))
     | .inr s320 =>
      esc (esc (esc (some (.inr s320))))) s245) fun y364 =>
    some (.inl y364)) s38) fun y388 =>
   some (.inl y388)) s0) fun y409 =>
 some (.inl y409)
def wDA (p0:wAE):Option (Unit) :=
 some ()
def wEd (p0:wAE) (p1:wAG):Option (Bool) :=
 (wBR p1.Skier 0 (w64 ((↑p0.Starts.length:Int) - 1))).bind fun x9 =>
 if x9=true then
  some (decide (p1.Index=0))
 else
  some false
def wDj (p0:wAE) (p1:wAG):Option (wAH × wAH) :=
 ((wCf).bind fun x22 =>
 some (x22.skier,x22.mat)).bind fun (x17,x18) =>
 some ((⟨x17,x18⟩:wAH),(⟨p1.Skier,0⟩:wAH))
def wDk (p0:wAE) (p1:wAG):Option (Int × Int) :=
 (idx p0.Starts p1.Skier).bind fun x11 =>
 some (x11,w64 (-x11))
def wEe (p0:wAE) (p1:wAG):Option (Bool) :=
 (wBR p1.Skier 0 (w64 ((↑p0.Starts.length:Int) - 1))).bind fun x9 =>
 if x9=true then
  (wBR p1.Index 0 (w64 ((↑p0.Splits.length:Int) - 1))).bind fun x21 =>
  some x21
 else
  some false
def wDl (p0:wAE) (p1:wAG):Option (wAH × wAH) :=
 (some ()).bind fun _ =>
 some ((⟨p1.Skier,p1.Index⟩:wAH),(⟨p1.Skier,w64 (p1.Index + 1)⟩:wAH))
def wDm (p0:wAE) (p1:wAG):Option (Int × Int) :=
 (idx p0.Splits p1.Index).bind fun x11 =>
 some (x11.Hi,w64 (-x11.Lo))
def wEf (p0:wAE) (p1:wAG):Option (Bool) :=
 if p1.Skier=0 then
  (wBR p1.Index 0 (w64 ((↑p0.Clocks.length:Int) - 1))).bind fun x11 =>
  some x11
 else
  some false
def wCF (p0:Int):Option (wAH) :=
 some (⟨-1,w64 (1 + p0)⟩:wAH)
def wDn (p0:wAE) (p1:wAG):Option (wAH × wAH) :=
 (wCf).bind fun x19 =>
 (wCF p1.Index).bind fun x29 =>
 some (x19,x29)
def wDo (p0:wAE) (p1:wAG):Option (Int × Int) :=
 (idx p0.Clocks p1.Index).bind fun x11 =>
 some (w64 (-x11.Offset.Lo),x11.Offset.Hi)
def wEI (p0:wAE) (p1:wAG):Option (Bool) :=
 if p1.Skier=0 then
  (wBR p1.Index 0 (w64 ((↑p0.Readings.length:Int) - 1))).bind fun x11 =>
  some x11
 else
  some false
def wDW (p0:wAE) (p1:wAG):Option (wAH × wAH) :=
 (idx p0.Readings p1.Index).bind fun x17 =>
 ((wCF x17.Clock).bind fun x36 =>
 some (x36.skier,x36.mat)).bind fun (x31,x32) =>
 some ((⟨x31,x32⟩:wAH),(⟨x17.Skier,x17.Mat⟩:wAH))
def wDX (p0:wAE) (p1:wAG):Option (Int × Int) :=
 (idx p0.Readings p1.Index).bind fun x9 =>
 (idx p0.Clocks x9.Clock).bind fun x25 =>
 some (w64 (x9.Time + x25.Error),w64 (x25.Error - x9.Time))
def wBT :Option (Unit) :=
 some ()
def wBU (p0:wAE) (p1:wAG):Option (wAH × wAH × Int) :=
 if p1.Kind=0 then
  ((wBT).bind fun _ =>
  some ()).bind fun _ =>
  (wDj p0 p1).bind fun (x92,x93) =>
  (wDk p0 p1).bind fun (x113,x114) =>
  if p1.Up=true then
   (some ()).bind fun _ =>
   some (x92,x93,x113)
  else
   some (x93,x92,x114)
 else
  if p1.Kind=1 then
   ((wBT).bind fun _ =>
   some ()).bind fun _ =>
   (wDl p0 p1).bind fun (x251,x252) =>
   (wDm p0 p1).bind fun (x272,x273) =>
   if p1.Up=true then
    (some ()).bind fun _ =>
    some (x251,x252,x272)
   else
    some (x252,x251,x273)
  else
   if p1.Kind=2 then
    ((wBT).bind fun _ =>
    some ()).bind fun _ =>
    (wDn p0 p1).bind fun (x410,x411) =>
    (wDo p0 p1).bind fun (x431,x432) =>
    if p1.Up=true then
     (some ()).bind fun _ =>
     some (x410,x411,x431)
    else
     some (x411,x410,x432)
   else
    if p1.Kind=3 then
     ((wBT).bind fun _ =>
     some ()).bind fun _ =>
     (wDW p0 p1).bind fun (x569,x570) =>
     (wDX p0 p1).bind fun (x590,x591) =>
     if p1.Up=true then
      (some ()).bind fun _ =>
      some (x569,x570,x590)
     else
      some (x570,x569,x591)
    else
     (wBT).bind fun _ =>
     none
def wDB (p0:wAE):Option (wAh) :=
 ((wCf).bind fun x22 =>
 some (wFe ([]:List (wAH × Int)) x22 0)).bind fun l13 =>
 (wDA p0).bind fun _ =>
 (wCJ (S:=(List wAg) × (List (wAH × Int))) (E:=Empty) (fun (l1591,l1595) x1616 =>
  (wBU p0 x1616).bind fun (x1652,x1653,x1654) =>
  (wBg 0 2 (fun k1692 l1689 =>
   (idx ([x1652,x1653]:List wAH) (↑k1692:Int)).bind fun x1718 =>
   if (wKa l1689 x1718)=true then
    some l1689
   else
    some (wFe l1689 x1718 (↑(l1689.length):Int))) l1595).bind fun y1697 =>
  (app 56 l1591 [(⟨x1616,(wAv y1697 x1652 0),(wAv y1697 x1653 0),x1654⟩:wAg)]).bind fun x1773 =>
  some (.inl (x1773,y1697))) ([],l13) p0).bind fun rr1606 =>
 match rr1606 with
 | .inl (y1845,y1846) =>
  some (⟨p0,y1846,y1845⟩:wAh)
 | .inr e1851 =>
  e1851.elim
def wCP (p0:wAE):Option ((Option wAh) × Int) :=
 (wCd p0).bind fun x5 =>
 if x5=0 then
  (wDB p0).bind fun x21 =>
  some ((some x21),0)
 else
  some (none,x5)
def wBJ (p0:List wAP) (p1:(wAP->Option Bool)):Option (Bool) :=
 jn (wEG 0 (↑p0.length:Int) (fun k2 _ =>
  (idx p0 (↑k2:Int)).bind fun x22 =>
  (p1 x22).bind fun x37 =>
  if x37=true then
   some (.inl ())
  else
   esc (some false)) ()) fun _ =>
 some true
def wDY (p0 p1:Int):Option (Int × Int):=if 0 <= p0/\p0 < 18446744073709551616/\0 <= p1/\p1 < 18446744073709551616 then some (p0 * p1 / 18446744073709551616,p0 * p1 % 18446744073709551616) else none
def wBK (p0:List Int) (p1:Int):Option ((List Int)) :=
 if p1 < 0 then
  none
 else
  (wDY (wLa (↑p0.length:Int)) (wLa p1)).bind fun (x4,x5) =>
  (if 0 < x4 then
   some true
  else
   some (decide (9223372036854775807 < x5))).bind fun b15 =>
  if b15=true then
   none
  else
   (mkz 8 (w64 x5) (0:Int)).bind fun x35 =>
   (wLc x35 0 p0).bind fun x45 =>
   iter (fun (l58,x59) =>
    if x59 < (↑l58.length:Int) then
     (cut l58 x59 (↑(l58.length):Int)).bind fun x77 =>
     (cut l58 0 x59).bind fun x86 =>
     (wLc l58 x59 x86).bind fun x95 =>
     some (.inl (x95,w64 (x59 + (↑(min x86.length (x77.length)):Int))))
    else
     esc (some l58)) big (x45,(↑(min p0.length (x35.length)):Int))
def wAj (p0:wAh) (p1:Int) (p2:Bool):Option (wDR × Int × Bool) :=
 ((wBK [1125899906842624] (↑(p0.number.length):Int)).bind fun x28 =>
 (wBK [-1] (↑(p0.number.length):Int)).bind fun x51 =>
 some (x28,x51)).bind fun (l9,l12) =>
 (wBg 0 (↑l9.length:Int) (fun k1254 l1253 =>
  if p1 < 0 then
   (chk (↑k1254:Int) l1253.length).bind fun _ =>
   some (nM l1253 k1254 0)
  else
   if (↑k1254:Int)=p1 then
    (chk (↑k1254:Int) l1253.length).bind fun _ =>
    some (nM l1253 k1254 0)
   else
    some l1253) l9).bind fun y1259 =>
 jn (wEG 0 (w64 ((↑(p0.number.length):Int) + 1)) (fun k1336 (l1333,l1334,x1335) =>
  (wBg 0 (↑p0.edges.length:Int) (fun k1375 (l1372,l1373,x1374) =>
   ((idx p0.edges (↑k1375:Int)).bind fun x1412 =>
   if p2=true then
    (chk x1412.to_ l1372.length).bind fun _ =>
    if (gd l1372 x1412.to_.toNat) < 1125899906842624 then
     (chk x1412.from_ l1372.length).bind fun _ =>
     if (w64 ((gd l1372 x1412.to_.toNat) + x1412.count)) < (gd l1372 x1412.from_.toNat) then
      ((chk x1412.from_ l1373.length).bind fun _ =>
      some ()).bind fun _ =>
      some ((nM l1372 x1412.from_.toNat (w64 ((gd l1372 x1412.to_.toNat) + x1412.count))),(nM l1373 x1412.from_.toNat (↑k1375:Int)),x1412.from_)
     else
      some (l1372,l1373,x1374)
    else
     some (l1372,l1373,x1374)
   else
    (chk x1412.from_ l1372.length).bind fun _ =>
    if (gd l1372 x1412.from_.toNat) < 1125899906842624 then
     (chk x1412.to_ l1372.length).bind fun _ =>
     if (w64 ((gd l1372 x1412.from_.toNat) + x1412.count)) < (gd l1372 x1412.to_.toNat) then
      ((chk x1412.to_ l1373.length).bind fun _ =>
      some ()).bind fun _ =>
      some ((nM l1372 x1412.to_.toNat (w64 ((gd l1372 x1412.from_.toNat) + x1412.count))),(nM l1373 x1412.to_.toNat (↑k1375:Int)),x1412.to_)
     else
      some (l1372,l1373,x1374)
    else
     some (l1372,l1373,x1374)).bind fun (l1406,l1407,x1408) =>
   some (l1406,l1407,x1408)) (l1333,l1334,-1)).bind fun (y1380,y1381,y1382) =>
  if y1382 < 0 then
   esc (some ((⟨y1380,y1381⟩:wDR),0,true))
  else
   some (.inl (y1380,y1381,y1382))) (y1259,l12,-1)) fun (y1697,y1698,y1699) =>
 some ((⟨y1697,y1698⟩:wDR),y1699,false)
def wAy (p0:wAh):Option (Bool) :=
 (wAj p0 (-1) false).bind fun (x3,x4,x5) =>
 some x5
def wCe (p0:wAE) (p1:List wAP):Option ((Option wAh) × Int) :=
 (wCP p0).bind fun (x5,x6) =>
 match x5 with
 | none =>
  if x6=0 then
   (wBJ p1 (fun x=>wAn p0 x)).bind fun x40 =>
   if x40=true then
    none
   else
    some (none,1)
  else
   some (none,x6)
 | some x30 =>
  if x6=0 then
   (wBJ p1 (fun x=>wAn p0 x)).bind fun x71 =>
   if x71=true then
    (wAy x30).bind fun x96 =>
    if x96=true then
     some ((some x30),0)
    else
     some (none,7)
   else
    some (none,1)
  else
   some (none,x6)
def wCK (p0:wAP):Option (wAH) :=
 some (⟨p0.Skier,p0.Mat⟩:wAH)
def wBh (p0:wAh) (p1:wAH) (p2:wAH):Option (wAI) :=
 ((wAj p0 (wAv p0.number p1 0) false).bind fun (x26,x27,x28) =>
 some (x26.far,x26.by_)).bind fun (l17,l20) =>
 ((wAj p0 (wAv p0.number p2 0) false).bind fun (x145,x146,x147) =>
 some (x145.far,x145.by_)).bind fun (l131,l134) =>
 (chk (wAv p0.number p1 0) l131.length).bind fun _ =>
 (chk (wAv p0.number p2 0) l17.length).bind fun _ =>
 some (⟨w64 (-(gd l131 (wAv p0.number p1 0).toNat)),(gd l17 (wAv p0.number p2 0).toNat)⟩:wAI)
def wEW (p0:wAE) (p1:wAP):Option (wAI × Int) :=
 (wCe p0 [p1]).bind fun (x27,x28) =>
 match x27 with
 | none =>
  if x28=0 then
   (wCf).bind fun x58 =>
   (wCK p1).bind fun x68 =>
   none
  else
   some ((⟨0,0⟩:wAI),x28)
 | some x52 =>
  if x28=0 then
   (wCf).bind fun x95 =>
   (wCK p1).bind fun x105 =>
   (wBh x52 x95 x105).bind fun x125 =>
   some (x125,0)
  else
   some ((⟨0,0⟩:wAI),x28)
def wEC (p0:wAE) (p1:wAP) (p2:wAP):Option (wAI × Int) :=
 (wCe p0 [p1,p2]).bind fun (x31,x32) =>
 match x31 with
 | none =>
  if x32=0 then
   (wCK p1).bind fun x62 =>
   (wCK p2).bind fun x72 =>
   none
  else
   some ((⟨0,0⟩:wAI),x32)
 | some x56 =>
  if x32=0 then
   (wCK p1).bind fun x99 =>
   (wCK p2).bind fun x109 =>
   (wBh x56 x99 x109).bind fun x129 =>
   some (x129,0)
  else
   some ((⟨0,0⟩:wAI),x32)
def wCQ (p0:wAE) (p1:wAG):Option (Bool) :=
 if p1.Kind=0 then
  (wBR p1.Kind 0 3).bind fun x16 =>
  if x16=true then
   (wBT).bind fun _ =>
   (wEd p0 p1).bind fun x45 =>
   some x45
  else
   some false
 else
  if p1.Kind=1 then
   (wBR p1.Kind 0 3).bind fun x67 =>
   if x67=true then
    (wBT).bind fun _ =>
    (wEe p0 p1).bind fun x96 =>
    some x96
   else
    some false
  else
   if p1.Kind=2 then
    (wBR p1.Kind 0 3).bind fun x118 =>
    if x118=true then
     (wBT).bind fun _ =>
     (wEf p0 p1).bind fun x147 =>
     some x147
    else
     some false
   else
    if p1.Kind=3 then
     (wBR p1.Kind 0 3).bind fun x169 =>
     if x169=true then
      (wBT).bind fun _ =>
      (wEI p0 p1).bind fun x198 =>
      some x198
     else
      some false
    else
     (wBR p1.Kind 0 3).bind fun x220 =>
     if x220=true then
      (wBT).bind fun _ =>
      none
     else
      some false
def wCg (p0:List wAG) (p1:(wAG->Option Bool)):Option (Bool) :=
 jn (wEG 0 (↑p0.length:Int) (fun k2 _ =>
  (idx p0 (↑k2:Int)).bind fun x22 =>
  (p1 x22).bind fun x37 =>
  if x37=true then
   some (.inl ())
  else
   esc (some false)) ()) fun _ =>
 some true
def wCh (p0:wAE) (p1:List wAG):Option (Int) :=
 if 80 < (↑p1.length:Int) then
  some 2
 else
  (wCg p1 (fun x=>wCQ p0 x)).bind fun x9 =>
  if x9=true then
   some 0
  else
   some 1
def wCt (p0:wAE) (p1:wAH) (p2:List wAG):Option (wAH × Int × Bool) :=
 jn (wEG 0 (↑p2.length:Int) (fun k27 (x24,x25,x26) =>
  (idx p2 (↑k27:Int)).bind fun x50 =>
  (wBU p0 x50).bind fun (x69,x70,x71) =>
  if x69=(⟨x24,x25⟩:wAH) then
   some (.inl (x70.skier,x70.mat,w64 (x26 + x71)))
  else
   esc (some ((⟨x24,x25⟩:wAH),0,false))) (p1.skier,p1.mat,0)) fun (y114,y115,y116) =>
 some ((⟨y114,y115⟩:wAH),y116,true)
def wEx (p0:wAE) (p1:wAP) (p2:wAP) (p3:List wAG):Option (Int × Int) :=
 (wCd p0).bind fun x13 =>
 if x13=0 then
  (wAn p0 p1).bind fun x29 =>
  if x29=true then
   (wAn p0 p2).bind fun x45 =>
   if x45=true then
    (wCh p0 p3).bind fun x64 =>
    if x64=0 then
     ((wCK p1).bind fun x85 =>
     (wCt p0 x85 p3).bind fun (x105,x106,x107) =>
     some (x105.skier,x105.mat,x106,x107)).bind fun (x78,x79,x80,b81) =>
     if b81=true then
      (wCK p2).bind fun x256 =>
      if (⟨x78,x79⟩:wAH)=x256 then
       some (x80,0)
      else
       some (0,8)
     else
      some (0,8)
    else
     some (0,x64)
   else
    some (0,1)
  else
   some (0,1)
 else
  some (0,x13)
def wEy (p0:wAE) (p1:Int):Option ((Option wAh) × Int) :=
 (wCe p0 [(⟨0,p1⟩:wAP)]).bind fun (x19,x20) =>
 match x19 with
 | none =>
  some (none,x20)
 | some x44 =>
  some ((some x44),x20)
def wDF (p0:wAh) (p1:Int):Option ((Arr Int 64)) :=
 (wBg 0 (↑p0.Race.Starts.length:Int) (fun k19 a18 =>
  (wAj p0 (wAv p0.number (⟨(↑k19:Int),p1⟩:wAH) 0) false).bind fun (x47,x48,x49) =>
  (wBg 0 (↑p0.Race.Starts.length:Int) (fun k79 a78 =>
   (chk (wAv p0.number (⟨(↑k79:Int),p1⟩:wAH) 0) x47.far.length).bind fun _ =>
   (chk (↑k19:Int) 8).bind fun _ =>
   (chk (↑k79:Int) 8).bind fun _ =>
   some (a78.set (k19 * 8 + k79) (gd x47.far (wAv p0.number (⟨(↑k79:Int),p1⟩:wAH) 0).toNat))) a18).bind fun y84 =>
  some y84) (Arr.fill 64 0)).bind fun y24 =>
 some y24
def wEz (p0:wAE) (p1:Int):Option ((List wAI) × Int) :=
 (wEy p0 p1).bind fun (x5,x6) =>
 match x5 with
 | none =>
  if x6=0 then
   none
  else
   some ([],x6)
 | some x30 =>
  if x6=0 then
   (wDF x30 p1).bind fun x48 =>
   (wBg 0 (↑p0.Starts.length:Int) (fun k83 l79 =>
    (wBg 0 (↑p0.Starts.length:Int) (fun k124 (x122,x123) =>
     (chk (↑k83:Int) 8).bind fun _ =>
     (chk (↑k124:Int) 8).bind fun _ =>
     if (x48.get (k83 * 8 + k124)) < 0 then
      if 0 < (x48.get (k124 * 8 + k83)) then
       some (w64 (x122 + 1),w64 (x123 + 1))
      else
       some (w64 (x122 + 1),x123)
     else
      if 0 < (x48.get (k124 * 8 + k83)) then
       some (x122,w64 (x123 + 1))
      else
       some (x122,x123)) (1,1)).bind fun (y129,y130) =>
    (app 16 l79 [(⟨y129,y130⟩:wAI)]).bind fun x207 =>
    some x207) []).bind fun y88 =>
   some (y88,0)
  else
   some ([],x6)
def wCi (p0:wAK) (p1:Int) (p2:Int):Option (Bool) :=
 some (decide ((⟨p0.Skier,p0.Mat⟩:wAP)=(⟨p1,p2⟩:wAP)))
def wAw (p0:List wAK) (p1:(wAK->Option Bool)):Option (Int) :=
 jn (wEG 0 (↑p0.length:Int) (fun k2 _ =>
  (idx p0 (↑k2:Int)).bind fun x22 =>
  (p1 x22).bind fun x30 =>
  if x30=true then
   esc (some (↑k2:Int))
  else
   some (.inl ())) ()) fun _ =>
 some (-1)
def wAp (p0:List wAK) (p1:(wAK->Option Bool)):Option (Bool) :=
 (wAw p0 p1).bind fun x1 =>
 some (decide (0 <= x1))
def wEg (p0:wAE):Option ((List wAP) × Int) :=
 (wCd p0).bind fun x5 =>
 if x5=0 then
  (wBg 0 (↑p0.Starts.length:Int) (fun k34 l30 =>
   iter (fun (l91,x95) =>
    if x95 <= (↑p0.Splits.length:Int) then
     (wAp p0.Readings (fun x=>wCi x (↑k34:Int) x95)).bind fun x127 =>
     if x127=true then
      some (.inl (l91,w64 (x95 + 1)))
     else
      (app 16 l91 [(⟨(↑k34:Int),x95⟩:wAP)]).bind fun x163 =>
      some (.inl (x163,w64 (x95 + 1)))
    else
     esc (some l91)) big (l30,1)) []).bind fun y39 =>
  some (y39,0)
 else
  some ([],x5)
def wCL (p0:List wAI) (p1:List wAI):Option (Bool) :=
 if (↑p0.length:Int)=(↑p1.length:Int) then
  jn (wEG 0 (↑p0.length:Int) (fun k4 _ =>
   (idx p0 (↑k4:Int)).bind fun x26 =>
   (idx p1 (↑k4:Int)).bind fun x34 =>
   if x26=x34 then
    some (.inl ())
   else
    esc (some false)) ()) fun _ =>
  some true
 else
  some false
def wCA (p0:List wAP) (p1:List wAP):Option (Bool) :=
 if (↑p0.length:Int)=(↑p1.length:Int) then
  jn (wEG 0 (↑p0.length:Int) (fun k4 _ =>
   (idx p0 (↑k4:Int)).bind fun x26 =>
   (idx p1 (↑k4:Int)).bind fun x34 =>
   if x26=x34 then
    some (.inl ())
   else
    esc (some false)) ()) fun _ =>
  some true
 else
  some false
def wBV :Option (wAE) :=
 (wBC).bind fun x5 =>
 (chk 1 x5.Readings.length).bind fun _ =>
 some (⟨x5.Starts,x5.Splits,x5.Clocks,(nM x5.Readings 1 (⟨(gd x5.Readings 1).Skier,(gd x5.Readings 1).Mat,(gd x5.Readings 1).Clock,1700⟩:wAK))⟩:wAE)
def wBx (p0:wAh) (p1:List Int):Option ((List (List Int)) × (List Int)) :=
 (idx p1 0).bind fun x3 =>
 (wBg 0 (↑p0.Race.Starts.length:Int) (fun k31 l26 =>
  (wBg 0 (w64 ((↑p0.Race.Splits.length:Int) + 1)) (fun k74 l70 =>
   (idx p1 (wAv p0.number (⟨(↑k31:Int),(↑k74:Int)⟩:wAH) 0)).bind fun x103 =>
   (app 8 l70 [w64 (x103 - x3)]).bind fun x117 =>
   some x117) []).bind fun y79 =>
  (app 24 l26 [y79]).bind fun x161 =>
  some x161) []).bind fun y36 =>
 (wBg 0 (↑p0.Race.Clocks.length:Int) (fun k215 l211 =>
  (wCF (↑k215:Int)).bind fun x243 =>
  (idx p1 (wAv p0.number x243 0)).bind fun x253 =>
  (app 8 l211 [w64 (x3 - x253)]).bind fun x268 =>
  some x268) []).bind fun y220 =>
 some (y36,y220)
def wFN (p0:wAE):Option ((List (List Int)) × (List Int) × Int) :=
 (wCP p0).bind fun (x5,x6) =>
 match x5 with
 | none =>
  if x6=0 then
   none
  else
   some ([],[],x6)
 | some x30 =>
  if x6=0 then
   (wAj x30 (-1) false).bind fun (x59,x60,x61) =>
   if x61=true then
    (wBx x30 x59.far).bind fun (x101,x102) =>
    some (x101,x102,0)
   else
    some ([],[],7)
  else
   some ([],[],x6)
def wEh (p0:wAE) (p1:List wAG):Option (Int × Int) :=
 (wCd p0).bind fun x5 =>
 if x5=0 then
  (wCh p0 p1).bind fun x22 =>
  if x22=0 then
   if (↑p1.length:Int)=0 then
    some (0,8)
   else
    ((idx p1 0).bind fun x44 =>
    (wBU p0 x44).bind fun (x56,x57,x58) =>
    some (x56.skier,x56.mat)).bind fun (x39,x40) =>
    (wCt p0 (⟨x39,x40⟩:wAH) p1).bind fun (x279,x280,x281) =>
    if x281=true then
     if x279=(⟨x39,x40⟩:wAH) then
      if 0 <= x280 then
       some (0,8)
      else
       some (x280,0)
     else
      some (0,8)
    else
     some (0,8)
  else
   some (0,x22)
 else
  some (0,x5)
def wDH (p0:Int) (p1:wAK) (p2:Int):Option (Bool) :=
 some (decide (p0=p2))
def wCM (p0:wAE) (p1:((Int × wAK)->Option Bool)):Option (wAh) :=
 (mkz 32 (↑p0.Readings.length:Int) (⟨0,0,0,0⟩:wAK)).bind fun x5 =>
 (wLc x5 0 p0.Readings).bind fun x13 =>
 (wBg 0 (↑x13.length:Int) (fun k34 (l32,k33) =>
  (chk (↑k34:Int) l32.length).bind fun _ =>
  (p1 ((↑k34:Int),(gd l32 k34))).bind fun x68 =>
  if x68=true then
   some (l32,k33)
  else
   (chk (((k33):Nat):Int) l32.length).bind fun _ =>
   some ((nM l32 k33 (gd l32 k34)),(k33 + 1))) (x13,0)).bind fun (y39,y40) =>
 (cut y39 0 ((y40:Nat):Int)).bind fun x114 =>
 (wDB (⟨p0.Starts,p0.Splits,p0.Clocks,x114⟩:wAE)).bind fun x130 =>
 some x130
def wDI (p0:Int) (p1:wAK) (p2:Int) (p3:Int):Option (Bool) :=
 if p0=p2 then
  some true
 else
  some (decide (p0=p3))
def wFO (p0:wAE):Option ((List Int) × Int) :=
 (wCP p0).bind fun (x5,x6) =>
 match x5 with
 | none =>
  if x6=0 then
   none
  else
   some ([],x6)
 | some x30 =>
  if x6=0 then
   (wAy x30).bind fun x57 =>
   if x57=true then
    some ([],0)
   else
    jn (wEG 0 (↑p0.Readings.length:Int) (fun k73 _ =>
     (wCM p0 (fun x=>wDH x.1 x.2 (↑k73:Int))).bind fun x126 =>
     (wAy x126).bind fun x167 =>
     if x167=true then
      esc (some ([(↑k73:Int)],0))
     else
      some (.inl ())) ()) fun _ =>
    jn (wEG 0 (↑p0.Readings.length:Int) (fun k204 _ =>
     iter (fun x250 =>
      if x250 < (↑p0.Readings.length:Int) then
       (wCM p0 (fun x=>wDI x.1 x.2 (↑k204:Int) x250)).bind fun x309 =>
       (wAy x309).bind fun x350 =>
       if x350=true then
        esc (esc (some ([(↑k204:Int),x250],0)))
       else
        some (.inl (w64 (x250 + 1)))
      else
       esc (some (.inl ()))) big (↑(k204 + 1):Int)) ()) fun _ =>
    some ([],10)
  else
   some ([],x6)
def wDJ (p0:Int) (p1:wAK) (p2:Int):Option (Bool) :=
 some (decide (p1.Skier=p2))
def wFP (p0:wAE):Option ((List Int) × Int) :=
 (wCP p0).bind fun (x5,x6) =>
 match x5 with
 | none =>
  if x6=0 then
   none
  else
   some ([],x6)
 | some x30 =>
  if x6=0 then
   (wAy x30).bind fun x57 =>
   if x57=true then
    some ([],6)
   else
    (wBg 0 (↑p0.Starts.length:Int) (fun k89 l85 =>
     (wCM p0 (fun x=>wDJ x.1 x.2 (↑k89:Int))).bind fun x145 =>
     (wAy x145).bind fun x186 =>
     if x186=true then
      (app 8 l85 [(↑k89:Int)]).bind fun x206 =>
      some x206
     else
      some l85) []).bind fun y94 =>
    some (y94,0)
  else
   some ([],x6)
def wCN (p0:List Int) (p1:List Int):Option (Bool) :=
 if (↑p0.length:Int)=(↑p1.length:Int) then
  jn (wEG 0 (↑p0.length:Int) (fun k4 _ =>
   (idx p0 (↑k4:Int)).bind fun x26 =>
   (idx p1 (↑k4:Int)).bind fun x34 =>
   if x26=x34 then
    some (.inl ())
   else
    esc (some false)) ()) fun _ =>
  some true
 else
  some false
def wBz :Option (Bool) :=
 (wBC).bind fun x1 =>
 (wAd 0 2).bind fun x23 =>
 (wEW x1 x23).bind fun (x59,x60) =>
 (wBC).bind fun x77 =>
 (wAd 0 1).bind fun x99 =>
 (wEW x77 x99).bind fun (x135,x136) =>
 (wBC).bind fun x153 =>
 (wAd 0 2).bind fun x175 =>
 (wAd 1 2).bind fun x185 =>
 (wEC x153 x175 x185).bind fun (x221,x222) =>
 (wBC).bind fun x239 =>
 (wAd 0 2).bind fun x261 =>
 (wAd 1 2).bind fun x271 =>
 (wEx x239 x261 x271 [(⟨3,0,0,false⟩:wAG),(⟨3,0,2,true⟩:wAG)]).bind fun (x321,x322) =>
 (wBC).bind fun x342 =>
 (wEz x342 2).bind fun (x390,x391) =>
 (wBC).bind fun x404 =>
 (wEg x404).bind fun (x452,x453) =>
 (if x60=0 then
  if x136=0 then
   if x222=0 then
    if x322=0 then
     if x391=0 then
      if x453=0 then
       if x59=(⟨2244,2256⟩:wAI) then
        if x135=(⟨1000,1200⟩:wAI) then
         if x221=(⟨247,251⟩:wAI) then
          if x321=251 then
           (wCL x390 [(⟨1,1⟩:wAI),(⟨2,2⟩:wAI)]).bind fun x506 =>
           if x506=true then
            (wAd 0 1).bind fun x518 =>
            (wCA x452 [x518]).bind fun x544 =>
            some (!x544)
           else
            some true
          else
           some true
         else
          some true
        else
         some true
       else
        some true
      else
       some true
     else
      some true
    else
     some true
   else
    some true
  else
   some true
 else
  some true).bind fun b466 =>
 if b466=true then
  some false
 else
  (wBV).bind fun x586 =>
  (wFN x586).bind fun (x634,x635,x636) =>
  (wBV).bind fun x654 =>
  (wEh x654 [(⟨0,1,0,true⟩:wAG),(⟨1,1,0,true⟩:wAG),(⟨3,0,1,false⟩:wAG),(⟨2,0,0,false⟩:wAG)]).bind fun (x716,x717) =>
  (wBV).bind fun x727 =>
  (wFO x727).bind fun (x775,x776) =>
  (wBV).bind fun x789 =>
  (wFP x789).bind fun (x837,x838) =>
  if x636=7 then
   if x717=0 then
    if x776=0 then
     if x838=0 then
      if x716=(-194) then
       (wCN x775 [1]).bind fun x886 =>
       if x886=true then
        (wCN x837 [1]).bind fun x914 =>
        some x914
       else
        some false
      else
       some false
     else
      some false
    else
     some false
   else
    some false
  else
   some false
def wCX (p0:Int) (p1:Int):Option (Int) :=
 if p1 <= 0 then
  some 0
 else
  (rem p0 p1).bind fun x4 =>
  (rem (w64 (x4 + p1)) p1).bind fun x7 =>
  some x7
def wDS (p0:wAE) (p1:wAP) (p2:wAP) (p3:Bool):Option ((List (List Int)) × (List Int) × Int) :=
 (wCe p0 [p1,p2]).bind fun (x27,x28) =>
 match x27 with
 | none =>
  if x28=0 then
   if p3=true then
    none
   else
    none
  else
   some ([],[],x28)
 | some x52 =>
  if x28=0 then
   if p3=true then
    ((wCK p1).bind fun x95 =>
    (wAj x52 (wAv x52.number x95 0) false).bind fun (x110,x111,x112) =>
    some (x110.far,x110.by_)).bind fun (l86,l89) =>
    (wBx x52 l86).bind fun (x287,x288) =>
    some (x287,x288,0)
   else
    ((wCK p2).bind fun x321 =>
    (wAj x52 (wAv x52.number x321 0) false).bind fun (x336,x337,x338) =>
    some (x336.far,x336.by_)).bind fun (l312,l315) =>
    (wBx x52 l312).bind fun (x513,x514) =>
    some (x513,x514,0)
  else
   some ([],[],x28)
def wBi (p0:wAE) (p1:List (List Int)) (p2:List Int):Option (Bool) :=
 if (↑p1.length:Int)=(↑p0.Starts.length:Int) then
  if (↑p2.length:Int)=(↑p0.Clocks.length:Int) then
   jn (wEG 0 (↑p1.length:Int) (fun k10 _ =>
    (idx p1 (↑k10:Int)).bind fun x32 =>
    if (↑x32.length:Int)=(w64 ((↑p0.Splits.length:Int) + 1)) then
     (idx x32 0).bind fun x49 =>
     (idx p0.Starts (↑k10:Int)).bind fun x56 =>
     if x49=x56 then
      jn (wEG 0 (↑p0.Splits.length:Int) (fun k67 _ =>
       (idx p0.Splits (↑k67:Int)).bind fun x93 =>
       (idx x32 (↑(k67 + 1):Int)).bind fun x125 =>
       (idx x32 (↑k67:Int)).bind fun x133 =>
       if x125 < x133 then
        esc (esc (some false))
       else
        if (w64 (x125 - x133)) < x93.Lo then
         esc (esc (some false))
        else
         if x93.Hi < (w64 (x125 - x133)) then
          esc (esc (some false))
         else
          some (.inl ())) ()) fun _ =>
      some (.inl ())
     else
      esc (some false)
    else
     esc (some false)) ()) fun _ =>
   jn (wEG 0 (↑p0.Clocks.length:Int) (fun k224 _ =>
    (idx p0.Clocks (↑k224:Int)).bind fun x246 =>
    (idx p2 (↑k224:Int)).bind fun x264 =>
    if x264 < x246.Offset.Lo then
     esc (some false)
    else
     if x246.Offset.Hi < x264 then
      esc (some false)
     else
      some (.inl ())) ()) fun _ =>
   jn (wEG 0 (↑p0.Readings.length:Int) (fun k304 _ =>
    (idx p0.Readings (↑k304:Int)).bind fun x326 =>
    (idx p1 x326.Skier).bind fun x345 =>
    (idx x345 x326.Mat).bind fun x360 =>
    (idx p2 x326.Clock).bind fun x367 =>
    (idx p0.Clocks x326.Clock).bind fun x377 =>
    if x377.Error < (w64 ((w64 (x326.Time - x360)) - x367)) then
     esc (some false)
    else
     if x377.Error < (w64 (-(w64 ((w64 (x326.Time - x360)) - x367)))) then
      esc (some false)
     else
      some (.inl ())) ()) fun _ =>
   some true
  else
   some false
 else
  some false
def wDh (p0:Int) (p1:Int) (p2:Int):Option (Bool) :=
 if p1 <= p0 then
  some (decide (p0 <= p2))
 else
  some false
def wBj (p0:List Int) (p1:wAT):Option (Bool) :=
 some (decide ((↑p0.length:Int) <= p1.Laps))
def wCY (p0:List (List Int)) (p1:((List Int)->Option Bool)):Option (Bool) :=
 jn (wEG 0 (↑p0.length:Int) (fun k2 _ =>
  (idx p0 (↑k2:Int)).bind fun x22 =>
  (p1 x22).bind fun x35 =>
  if x35=true then
   some (.inl ())
  else
   esc (some false)) ()) fun _ =>
 some true
def wBu (p0:List Int) (p1:(Int->Option Bool)):Option (Bool) :=
 jn (wEG 0 (↑p0.length:Int) (fun k2 _ =>
  (idx p0 (↑k2:Int)).bind fun x22 =>
  (p1 x22).bind fun x30 =>
  if x30=true then
   some (.inl ())
  else
   esc (some false)) ()) fun _ =>
 some true
def wBk (p0:Int):Option (Bool) :=
 (wDh p0 1 999).bind fun x1 =>
 some x1
def wBW (p0:Int):Option (Bool) :=
 (wDh p0 0 360000).bind fun x1 =>
 some x1
def wBl (p0:List Int):Option (Bool) :=
 (wBu p0 wBW).bind fun x2 =>
 some x2
def wDZ (p0:List Int):Option (Bool) :=
 jn (wEG 0 (↑p0.length:Int) (fun k20 l17 =>
  (idx p0 (↑k20:Int)).bind fun x41 =>
  if (wAv l17 x41 false)=true then
   esc (some true)
  else
   some (.inl (wFe l17 x41 true))) ([]:List (Int × Bool))) fun y68 =>
 some false
def wCZ (p0:wAT):Option (Int) :=
 (wDh p0.Laps 1 20).bind fun x10 =>
 if x10=true then
  if 60 < (↑p0.Bibs.length:Int) then
   some 2
  else
   if (↑p0.Times.length:Int)=(↑p0.Bibs.length:Int) then
    (wCY p0.Times (fun x=>wBj x p0)).bind fun x33 =>
    if x33=true then
     (wBu p0.Bibs wBk).bind fun x48 =>
     if x48=true then
      (wCY p0.Times wBl).bind fun x64 =>
      if x64=true then
       (wDZ p0.Bibs).bind fun x79 =>
       if x79=true then
        some 5
       else
        jn (wEG 0 (↑p0.Times.length:Int) (fun k97 _ =>
         (idx p0.Times (↑k97:Int)).bind fun x116 =>
         jn (wEG 1 (↑x116.length:Int) (fun k132 _ =>
          (idx x116 (1 + ↑k132:Int)).bind fun x155 =>
          (idx x116 (w64 ((1 + ↑k132:Int) - 1))).bind fun x163 =>
          if x155 <= x163 then
           esc (esc (some 4))
          else
           some (.inl ())) ()) fun _ =>
         some (.inl ())) ()) fun _ =>
        some 0
      else
       some 3
     else
      some 3
    else
     some 2
   else
    some 2
 else
  some 2
def wBq (p0:List Int) (p1:Int):Option ((List Int)) :=
 if p1 < 0 then
  none
 else
  if 0 < (w64 (p1 - 0)) then
   (appZ 8 (w64 (p1 - 0)) (0:Int)).bind fun x6 =>
   some ([]:List Int)
  else
   some []
def wBX (p0:List (List Int)):Option ((List Int)) :=
 (wBg 0 (↑p0.length:Int) (fun k7 x6 =>
  (idx p0 (↑k7:Int)).bind fun x29 =>
  if (w64 (x6 + (↑x29.length:Int))) < 0 then
   none
  else
   some (w64 (x6 + (↑x29.length:Int)))) 0).bind fun y12 =>
 (wBq [] y12).bind fun x59 =>
 (wBg 0 (↑p0.length:Int) (fun k86 l83 =>
  (idx p0 (↑k86:Int)).bind fun x107 =>
  (app 8 l83 x107).bind fun x122 =>
  some x122) x59).bind fun y91 =>
 some y91
def wCR (p0:List Int):Option (List Int):=wLg p0
def wBv (p0:List Int):Option (List Int):=wGl p0
def wAz {S E:Type} (f:S->Int->Option (S ⊕ E)) (s0:S) (p1:List Int):Option (S ⊕ E) :=
 jn (wEG 0 (↑p1.length:Int) (fun k12 s10 =>
  (idx p1 (↑k12:Int)).bind fun x33 =>
  (f s10 x33).bind fun yr41 =>
  match yr41 with
  | .inl s51 =>
   some (.inl s51)
  | .inr s51 =>
   esc (some (.inr s51))) s0) fun y65 =>
 some (.inl y65)
def wCB (p0:List Int):Option (Unit) :=
 some ()
def wBw (p0:wAT):Option ((List Int)) :=
 (wBX p0.Times).bind fun x5 =>
 (wCR x5).bind fun x18 =>
 (wBv x18).bind fun x29 =>
 (wCB x29).bind fun _ =>
 some x29
def wBF (p0:wAN) (p1:Int) (p2:Int) (p3:Int):Option (Int) :=
 (wBg 0 (↑p0.done.length:Int) (fun k7 x6 =>
  ((idx p0.done (↑k7:Int)).bind fun x35 =>
  (idx p0.out (↑k7:Int)).bind fun x46 =>
  if x46=true then
   some x6
  else
   if (w64 (p2 + 2)) <= x35 then
    (idx p0.Race.Times (↑k7:Int)).bind fun x60 =>
    (idx x60 (w64 (x35 - 1))).bind fun x73 =>
    if x73=p3 then
     if x6 < 0 then
      some (↑k7:Int)
     else
      (idx p0.Race.Bibs (↑k7:Int)).bind fun x96 =>
      (idx p0.Race.Bibs x6).bind fun x104 =>
      if x96 < x104 then
       some (↑k7:Int)
      else
       some x6
    else
     some x6
   else
    some x6).bind fun x31 =>
  some x31) (-1)).bind fun y12 =>
 some y12
def wBG (p0:wAN) (p1:Int):Option ((List Int) × wAN) :=
 (wBg 0 (↑p0.Race.Times.length:Int) (fun k10 l9 =>
  (idx p0.Race.Times (↑k10:Int)).bind fun x33 =>
  (chk (↑k10:Int) l9.length).bind fun _ =>
  (chk (↑k10:Int) p0.out.length).bind fun _ =>
  if (gd p0.out k10)=true then
   some l9
  else
   if (gd l9 k10) < (↑x33.length:Int) then
    (idx x33 (gd l9 k10)).bind fun x62 =>
    if x62=p1 then
     some (nM l9 k10 (w64 ((gd l9 k10) + 1)))
    else
     some l9
   else
    some l9) p0.done).bind fun y15 =>
 (wBg 0 (↑y15.length:Int) (fun k121 l117 =>
  (chk (↑k121:Int) y15.length).bind fun _ =>
  (chk (↑k121:Int) p0.out.length).bind fun _ =>
  if (gd p0.out k121)=true then
   some l117
  else
   (wBF (⟨p0.Race,y15,p0.out⟩:wAN) (↑k121:Int) (gd y15 k121) p1).bind fun x193 =>
   if 0 <= x193 then
    (app 8 l117 [(↑k121:Int)]).bind fun x222 =>
    some x222
   else
    some l117) []).bind fun y126 =>
 some (y126,(⟨p0.Race,y15,p0.out⟩:wAN))
noncomputable def wAs (p0:List wAO) (p1:((wAO × wAO)->Option Int)):Option (List wAO):=wKr p1 p0
def wCy (p0:Int):Option (Bool) :=
 some (decide (¬ (p0=p0)))
def wCG (p0:Int) (p1:Int):Option (Int) :=
 (wCy p0).bind fun x1 =>
 (wCy p1).bind fun x11 =>
 if x1=true then
  if x11=true then
   some 0
  else
   some (-1)
 else
  if x11=true then
   some 1
  else
   if p0 < p1 then
    some (-1)
   else
    if p1 < p0 then
     some 1
    else
     some 0
def wDt (p0:List Int):Option (Int) :=
 jn (wEG 0 (↑p0.length:Int) (fun k2 _ =>
  (idx p0 (↑k2:Int)).bind fun x22 =>
  if x22=0 then
   some (.inl ())
  else
   esc (some x22)) ()) fun _ =>
 some 0
def wBD (p0:wAO) (p1:wAO):Option (Int) :=
 (wCG p0.Time p1.Time).bind fun x11 =>
 (wCG p0.Bib p1.Bib).bind fun x21 =>
 (wDt [x11,x21]).bind fun x41 =>
 some x41
def wDi (p0:wAT):Option (wAN × (List wAO)) :=
 ((mkz 8 (↑p0.Bibs.length:Int) (0:Int)).bind fun x18 =>
 (mkz 1 (↑p0.Bibs.length:Int) false).bind fun x26 =>
 some (x18,x26)).bind fun (l9,l12) =>
 (wBw p0).bind fun x520 =>
 (wAz (S:=(List wAO) × Int × (List Int) × (List (List Int)) × (List Int) × (List Bool)) (E:=Empty) (fun (l1081,x1085,l1086,l1089,l1092,l1095) x1124 =>
  (wBG (⟨(⟨x1085,l1086,l1089⟩:wAT),l1092,l1095⟩:wAN) x1124).bind fun (x1150,x1151) =>
  (wBg 0 (↑x1150.length:Int) (fun k1191 l1188 =>
   (chk (↑k1191:Int) x1150.length).bind fun _ =>
   (idx x1151.Race.Bibs (gd x1150 k1191)).bind fun x1222 =>
   (chk (gd x1150 k1191) x1151.done.length).bind fun _ =>
   (wBF x1151 (gd x1150 k1191) (gd x1151.done (gd x1150 k1191).toNat) x1124).bind fun x1264 =>
   (idx x1151.Race.Bibs x1264).bind fun x1286 =>
   (app 32 l1188 [(⟨x1222,(gd x1151.done (gd x1150 k1191).toNat),x1124,x1286⟩:wAO)]).bind fun x1299 =>
   some x1299) l1081).bind fun y1196 =>
  (wBg 0 (↑x1150.length:Int) (fun k1338 l1337 =>
   (chk (↑k1338:Int) x1150.length).bind fun _ =>
   (chk (gd x1150 k1338) l1337.length).bind fun _ =>
   some (nM l1337 (gd x1150 k1338).toNat true)) x1151.out).bind fun y1343 =>
  some (.inl (y1196,x1151.Race.Laps,x1151.Race.Bibs,x1151.Race.Times,x1151.done,y1343))) ([],p0.Laps,p0.Bibs,p0.Times,l9,l12) x520).bind fun rr1118 =>
 match rr1118 with
 | .inl (y1416,y1417,y1418,y1419,y1420,y1421) =>
  (wAs y1416 (fun x=>wBD x.1 x.2)).bind fun x1438 =>
  some ((⟨(⟨y1417,y1418,y1419⟩:wAT),y1420,y1421⟩:wAN),x1438)
 | .inr e1432 =>
  e1432.elim
def wDK (p0:wAT):Option ((List wAO) × Int) :=
 (wCZ p0).bind fun x5 =>
 if x5=0 then
  (wDi p0).bind fun (x19,x20) =>
  some (x20,0)
 else
  some ([],x5)
def wAt (p0:wAO) (p1:Int):Option (Bool) :=
 if p0.Bib=2 then
  some (decide (p0.Done <= p1))
 else
  some false
def wAq (p0:List wAO) (p1:(wAO->Option Bool)):Option (Int) :=
 jn (wEG 0 (↑p0.length:Int) (fun k2 _ =>
  (idx p0 (↑k2:Int)).bind fun x22 =>
  (p1 x22).bind fun x30 =>
  if x30=true then
   esc (some (↑k2:Int))
  else
   some (.inl ())) ()) fun _ =>
 some (-1)
def wAb (p0:List wAO) (p1:(wAO->Option Bool)):Option (Bool) :=
 (wAq p0 p1).bind fun x1 =>
 some (decide (0 <= x1))
def wAu (p0:wAO):Option (Bool) :=
 some (decide (p0.Bib=1))
def wBo (p0:List Int) (p1:Int):Option (Bool) :=
 (wDV p0).bind fun x1 =>
 (wCI x1 1 6 0).bind fun (x16,x17,x18,x19) =>
 if (↑x16.Splits.length:Int) < 2 then
  (wBz).bind fun x59 =>
  some x59
 else
  (chk 0 x16.Starts.length).bind fun _ =>
  (app 8 x16.Starts [(gd x16.Starts 0)]).bind fun x82 =>
  (wCX p1 (w64 ((↑x16.Splits.length:Int) - 1))).bind fun x93 =>
  ((wAd 1 (w64 (x93 + 1))).bind fun x135 =>
  (wAd 0 (w64 (x93 + 2))).bind fun x145 =>
  (wEC (⟨x82,x16.Splits,x16.Clocks,x16.Readings⟩:wAE) x135 x145).bind fun (x181,x182) =>
  some (x82,x16.Splits,x16.Clocks,x16.Readings,x181.Lo,x181.Hi,x182)).bind fun (l110,l113,l116,l119,x124,x125,x126) =>
  if x126=0 then
   jn (wEG 0 2 (fun k525 _ =>
    (chk (↑k525:Int) [false,true].length).bind fun _ =>
    (wAd 1 (w64 (x93 + 1))).bind fun x554 =>
    (wAd 0 (w64 (x93 + 2))).bind fun x564 =>
    (wDS (⟨l110,l113,l116,l119⟩:wAE) x554 x564 (gd [false,true] k525)).bind fun (x590,x591,x592) =>
    if x592=0 then
     (wBi (⟨l110,l113,l116,l119⟩:wAE) x590 x591).bind fun x635 =>
     if x635=true then
      ((idx x590 0).bind fun x659 =>
      (cut x659 1 (↑(x659.length):Int)).bind fun x672 =>
      (idx x590 1).bind fun x684 =>
      (cut x684 1 (↑(x684.length):Int)).bind fun x696 =>
      some ([1,2],[x672,x696])).bind fun (l649,l652) =>
      (wDK (⟨(↑l113.length:Int),l649,l652⟩:wAT)).bind fun (x943,x944) =>
      if x944=0 then
       (wAb x943 (fun x=>wAt x x93)).bind fun x976 =>
       (idx x590 0).bind fun x988 =>
       (idx x988 (w64 (x93 + 2))).bind fun x1008 =>
       (idx x590 1).bind fun x1015 =>
       (idx x1015 (w64 (x93 + 1))).bind fun x1027 =>
       (wAb x943 wAu).bind fun x1036 =>
       (if x1008 < x1027 then
        if x976=true then
         if x125 < 0 then
          some (decide (¬ (x1008 < x1027)))
         else
          some false
        else
         if x1036=true then
          if x125 < 0 then
           some (decide (¬ (x1008 < x1027)))
          else
           some false
         else
          some true
       else
        if x125 < 0 then
         some (decide (¬ (x1008 < x1027)))
        else
         some false).bind fun b1046 =>
       if b1046=true then
        esc (some false)
       else
        some (.inl ())
      else
       esc (some false)
     else
      esc (some false)
    else
     esc (some false)) ()) fun _ =>
   if (↑x17.length:Int)=1 then
    (wBz).bind fun x1135 =>
    some x1135
   else
    some false
  else
   some false
end
end Go.Proofs.YtkghaiefcjgfkaaGreat
namespace Go.Proofs.YtkghaiefcjgfkaaGreat
open Go.KL Go.KL.Net
structure EdOK (n:Nat) (e:wAg):Prop where
 f0:0 <= e.from_
 f1:e.from_ < n
 t0:0 <= e.to_
 t1:e.to_ < n
 c0:-400000 <= e.count
 c1:e.count <= 400000
def ed (p:Bool) (e:wAg):Ed:=if p then ⟨e.to_.toNat,e.from_.toNat,e.count⟩ else ⟨e.from_.toNat,e.to_.toNat,e.count⟩
abbrev SS:=List Int × List Int × Int
def spB (es:List wAg) (p2:Bool):Nat->SS->Option SS:=fun k1375 (l1372,l1373,x1374) =>
      ((idx es (↑k1375:Int)).bind fun x1412 =>
      if p2=true then
        (chk x1412.to_ l1372.length).bind fun _ =>
        if (gd l1372 x1412.to_.toNat) < 1125899906842624 then
          (chk x1412.from_ l1372.length).bind fun _ =>
          if (w64 ((gd l1372 x1412.to_.toNat) + x1412.count)) < (gd l1372 x1412.from_.toNat) then
            ((chk x1412.from_ l1373.length).bind fun _ =>
            some ()).bind fun _ =>
            some ((nM l1372 x1412.from_.toNat (w64 ((gd l1372 x1412.to_.toNat) + x1412.count))),(nM l1373 x1412.from_.toNat (↑k1375:Int)),x1412.from_)
          else
            some (l1372,l1373,x1374)
        else
          some (l1372,l1373,x1374)
      else
        (chk x1412.from_ l1372.length).bind fun _ =>
        if (gd l1372 x1412.from_.toNat) < 1125899906842624 then
          (chk x1412.to_ l1372.length).bind fun _ =>
          if (w64 ((gd l1372 x1412.from_.toNat) + x1412.count)) < (gd l1372 x1412.to_.toNat) then
            ((chk x1412.to_ l1373.length).bind fun _ =>
            some ()).bind fun _ =>
            some ((nM l1372 x1412.to_.toNat (w64 ((gd l1372 x1412.from_.toNat) + x1412.count))),(nM l1373 x1412.to_.toNat (↑k1375:Int)),x1412.to_)
          else
            some (l1372,l1373,x1374)
        else
          some (l1372,l1373,x1374)).bind fun (l1406,l1407,x1408) =>
      some (l1406,l1407,x1408)
theorem wNy {n:Nat} {es:List wAg} (hes:∀ e ∈ es,EdOK n e) {p:Bool} {k:Nat} (hk:k < es.length) {far by_:List Int} {last:Int} (hf:far.length=n) (hb:by_.length=n) {M:Int} (hM:M <= 1000000000000000) (h0:0 <= M) (hr:∀ v,v < n->gd far v=1125899906842624 \/ (-M <= gd far v/\gd far v <= M)) :
  (ed p (gd es k)).a < n/\(ed p (gd es k)).b < n /\
  spB es p k (far,by_,last)=some (if gd far (ed p (gd es k)).a < 1125899906842624/\gd far (ed p (gd es k)).a + (ed p (gd es k)).c < gd far (ed p (gd es k)).b then
   (far.set (ed p (gd es k)).b (gd far (ed p (gd es k)).a + (ed p (gd es k)).c),by_.set (ed p (gd es k)).b (k:Int),((ed p (gd es k)).b:Int)) else (far,by_,last)):=by
 obtain ⟨f0,f1,t0,t1,c0,c1⟩:=hes _ (wAm hk)
 have hw:∀ a:Int,0 <= a->a < n->gd far a.toNat < 1125899906842624->w64 (gd far a.toNat + (gd es k).count)=gd far a.toNat + (gd es k).count:=fun a h1 h2 h3=>by
  rcases hr a.toNat (by omega) with c | c
  ·omega
  ·exact wAW (by omega) (by omega)
 unfold spB ed
 rw [wBI hk]
 cases p with
 | true =>
  refine ⟨by simp only [if_true];omega,by simp only [if_true];omega,?_⟩
  simp only [hD,if_true]
  rw [wCw t0 (by omega),hD]
  by_cases a:gd far (gd es k).to_.toNat < 1125899906842624
  ·rw [if_pos a,wCw f0 (by omega),hD,hw _ t0 t1 a]
   by_cases b:gd far (gd es k).to_.toNat + (gd es k).count < gd far (gd es k).from_.toNat
   ·rw [if_pos b,wCw f0 (by omega),if_pos ⟨a,b⟩]
    simp only [hD]
    rw [show (((gd es k).from_.toNat:Nat):Int)=(gd es k).from_ by omega]
   ·rw [if_neg b,if_neg (fun h=>b h.2)];rfl
  ·rw [if_neg a,if_neg (fun h=>a h.1)];rfl
 | false =>
  refine ⟨by simp only [nP,if_false];omega,by simp only [nP,if_false];omega,?_⟩
  simp only [hD,nP,if_false]
  rw [wCw f0 (by omega),hD]
  by_cases a:gd far (gd es k).from_.toNat < 1125899906842624
  ·rw [if_pos a,wCw t0 (by omega),hD,hw _ f0 f1 a]
   by_cases b:gd far (gd es k).from_.toNat + (gd es k).count < gd far (gd es k).to_.toNat
   ·rw [if_pos b,wCw t0 (by omega),if_pos ⟨a,b⟩]
    simp only [hD]
    rw [show (((gd es k).to_.toNat:Nat):Int)=(gd es k).to_ by omega]
   ·rw [if_neg b,if_neg (fun h=>b h.2)];rfl
  ·rw [if_neg a,if_neg (fun h=>a h.1)];rfl
structure Ps (n:Nat) (es:List wAg) (p:Bool) (far:List Int) (M:Int) (i:Nat) (s:SS):Prop where
 fl:s.1.length=n
 bl:s.2.1.length=n
 rg:∀ v,v < n->gd s.1 v=1125899906842624 \/ (-(M + 400000 * (i:Int)) <= gd s.1 v/\gd s.1 v <= M + 400000 * (i:Int))
 le:∀ v,v < n->gd s.1 v <= gd far v
 ch:(s.2.2=-1/\s.1=far/\∀ e ∈ es.take i,gd far (ed p e).a < 1125899906842624->gd far (ed p e).b <= gd far (ed p e).a + (ed p e).c) \/ (0 <= s.2.2/\s.2.2 < n/\∃ v,v < n/\gd s.1 v < gd far v)
 fe:∀ x,wHG (es.map (ed p)) x->(∀ v,v < n->x v <= gd far v)->∀ v,v < n->x v <= gd s.1 v
 st:∀ δ,wHG (es.map (ed p)) δ->(∀ v,v < n->δ v <= gd far v)->(∀ v,v < n->δ v < 1125899906842624)->∀ e ∈ es.take i,gd far (ed p e).a=δ (ed p e).a->δ (ed p e).b=δ (ed p e).a + (ed p e).c->gd s.1 (ed p e).b=δ (ed p e).b
theorem wMt {n:Nat} {es:List wAg} (hes:∀ e ∈ es,EdOK n e) (hl:es.length <= 1000) (p:Bool) {far by_:List Int} (hf:far.length=n) (hb:by_.length=n) {M:Int} (hM:M <= 900000000000000) (h0:0 <= M) (hr:∀ v,v < n->gd far v=1125899906842624 \/ (-M <= gd far v/\gd far v <= M)) :
  ∃ s,wBg 0 (↑es.length:Int) (spB es p) (far,by_,-1)=some s/\Ps n es p far M es.length s:=by
 rw [wEr (by omega)]
 obtain ⟨s,e,P⟩:=wFW (body:=spB es p) (fun i s=>Ps n es p far M i s) es.length 0 (far,by_,-1)
  ⟨hf,hb,fun v hv=>by have:=hr v hv;simp only;omega,fun _ _=>nO _,.inl ⟨rfl,rfl,fun e he=>by simp at he⟩,fun _ _ h=>h,fun _ _ _ _ e he=>by simp at he⟩ (by
  rintro i ⟨f,b,last⟩ _ hi P
  have hi':i < es.length:=by omega
  obtain ⟨fl,bl,rg,le,ch,fe,st⟩:=P
  simp only at fl bl rg le ch fe st
  obtain ⟨ha,hbb,e⟩:=wNy hes (p:=p) hi' (last:=last) fl bl (M:=M + 400000 * (i:Int)) (by omega) (by omega) rg
  have hm:=wAm hi'
  have hok:=hes _ hm
  have hc:-400000 <= (ed p (gd es i)).c/\(ed p (gd es i)).c <= 400000:=by
   have:=hok.c0;have:=hok.c1
   unfold ed
   split <;> exact ⟨by assumption,by assumption⟩
  have hfe:∀ x,wHG (es.map (ed p)) x->x (ed p (gd es i)).b <= x (ed p (gd es i)).a + (ed p (gd es i)).c:=fun x hx=>hx _ (nR.2 ⟨_,hm,rfl⟩)
  have hends:∀ e ∈ es.take i,(ed p e).a < n/\(ed p e).b < n:=fun e he=>by
   obtain ⟨a1,a2,a3,a4,_,_⟩:=hes e (List.mem_of_mem_take he)
   unfold ed
   split <;> (simp only;omega)
  generalize hE:ed p (gd es i)=E at ha hbb e hc hfe
  rw [e]
  by_cases c:gd f E.a < 1125899906842624/\gd f E.a + E.c < gd f E.b
  ·rw [if_pos c]
   obtain ⟨c1,c2⟩:=c
   have rga:-(M + 400000 * (i:Int)) <= gd f E.a/\gd f E.a <= M + 400000 * (i:Int):=by
    rcases rg E.a ha with q | q
    ·omega
    ·exact q
   have hg:∀ v,v < n->gd (f.set E.b (gd f E.a + E.c)) v=if v=E.b then gd f E.a + E.c else gd f v:=fun v hv=>wJi (by omega) (by omega)
   refine ⟨_,rfl,by simp [fl],by simp [bl],fun v hv=>?_,fun v hv=>?_,.inr ⟨by simp only;omega,by simp only;omega,E.b,hbb,?_⟩,fun x hx hxt v hv=>?_,fun δ hδ h1 h2 e' he' g1 g2=>?_⟩
   ·simp only
    rw [hg v hv]
    split
    ·right;omega
    ·rcases rg v hv with q | q
     ·exact .inl q
     ·right;omega
   ·simp only
    rw [hg v hv]
    split
    ·rename_i h;have:=le E.b hbb;rw [h];omega
    ·exact le v hv
   ·simp only
    rw [hg _ hbb,if_pos rfl]
    have:=le E.b hbb
    omega
   ·simp only
    rw [hg v hv]
    have:=fe x hx hxt
    split
    ·rename_i h
     have a1:=this E.a ha
     have a2:=hfe x hx
     rw [h];omega
    ·exact this v hv
   ·have lo:=fe δ hδ h1
    simp only
    rw [wEk hi'] at he'
    rcases nH.1 he' with he' | he'
    ·have old:=st δ hδ h1 h2 e' he' g1 g2
     rw [hg _ (hends e' he').2]
     split
     ·rename_i h
      have a1:=lo E.a ha
      have a2:=hfe δ hδ
      rw [h] at old ⊢
      omega
     ·exact old
    ·have:=nA.1 he'
     subst this
     rw [hE] at g1 g2 ⊢
     rw [hg _ hbb,if_pos rfl]
     have a1:=lo E.a ha
     have a2:=le E.a ha
     omega
  ·rw [if_neg c]
   refine ⟨_,rfl,fl,bl,fun v hv=>?_,le,?_,fe,fun δ hδ h1 h2 e' he' g1 g2=>?_⟩
   ·rcases rg v hv with q | q
    ·exact .inl q
    ·right;simp only;omega
   ·simp only
    rcases ch with ⟨q1,q2,q3⟩ | q
    ·refine .inl ⟨q1,q2,fun e' he' g=>?_⟩
     rw [wEk hi'] at he'
     rcases nH.1 he' with he' | he'
     ·exact q3 e' he' g
     ·have:=nA.1 he'
      subst this
      rw [hE] at g ⊢
      rw [q2] at c
      rcases kO (gd far E.a + E.c) (gd far E.b) with d | d
      ·exact absurd ⟨g,d⟩ c
      ·exact d
    ·exact .inr q
   ·have lo:=fe δ hδ h1
    rw [wEk hi'] at he'
    rcases nH.1 he' with he' | he'
    ·exact st δ hδ h1 h2 e' he' g1 g2
    ·have:=nA.1 he'
     subst this
     rw [hE] at g1 g2 ⊢
     simp only
     have a1:=lo E.a ha
     have a2:=le E.a ha
     have a3:=lo E.b hbb
     have a4:=h2 E.a ha
     have fa:gd f E.a=δ E.a:=by omega
     rw [fa] at c
     rcases kO (δ E.a + E.c) (gd f E.b) with d | d
     ·exact absurd ⟨a4,d⟩ c
     ·omega)
 rw [nc] at P
 exact ⟨s,e,P⟩
end Go.Proofs.YtkghaiefcjgfkaaGreat
namespace Go.Proofs.YtkghaiefcjgfkaaGreat
open Go.KL Go.KL.Net
theorem wFb {α:Type} [Inhabited α] (l:List α) (k:Nat):gd l k=(l[k]?).getD default:=by unfold gd;rw [List.getD_eq_getElem?_getD]
theorem wLF {α:Type} {m ys:List α} {a:Nat} (h:a <= m.length):(cpy m a ys).length=m.length:=by
 unfold cpy
 simp only [nQ,nI,nZ]
 omega
theorem wMY {α:Type} [Inhabited α] {m ys:List α} {a j:Nat} (h:a <= m.length) (hj:j < m.length):gd (cpy m a ys) j=if j < a then gd m j else if j < a + ys.length then gd ys (j - a) else gd m j:=by
 rw [wFb,wFb,wFb]
 unfold cpy
 rw [np]
 by_cases c:j < a
 ·rw [if_pos c,nu (by rw [nI];omega),nj,if_pos c]
 ·rw [if_neg c,nl (by rw [nI];omega),nI,Nat.min_eq_left h]
  by_cases d:j < a + ys.length
  ·rw [if_pos d,nu (by rw [nI];omega),nj,if_pos (by omega)]
  ·rw [if_neg d,nl (by rw [nI];omega),nI,List.getElem?_drop,Nat.min_eq_right (by omega)]
   congr 2
   omega
theorem wIi (x:Int) {n:Nat} (h1:1 <= n) (h2:n <= 1000):wBK [x] (n:Int)=some (nK n x):=by
 unfold wBK wDY
 have e1:wLa (([x]:List Int).length:Int)=1:=rfl
 have e2:wLa (n:Int)=n:=by unfold wLa;omega
 rw [if_neg (by omega),e1,e2,if_pos (by omega),hD]
 simp only
 rw [show (1:Int) * (n:Int) / 18446744073709551616=0 by omega,show (1:Int) * (n:Int) % 18446744073709551616=n by omega,if_neg (by omega),hD,decide_eq_false (by omega),if_neg (by simp),wAW (by omega) (by omega),mkz,if_pos (by omega),hD,wLc,if_pos (by simp),hD]
 have hlen:(nK (n:Int).toNat (0:Int)).length=n:=by simp
 generalize nK (n:Int).toNat (0:Int)=z at hlen
 have e3:((min ([x]:List Int).length z.length:Nat):Int)=1:=by simp only [nY];omega
 refine wJJ (I:=fun i (s:List Int × Int)=>s.1.length=n/\(i:Int) + 1 <= s.2/\s.2 <= n/\∀ j,j < s.2.toNat->gd s.1 j=x) n ⟨by rw [wLF (by simp)];exact hlen,by simp only;omega,by simp only;omega,fun j hj=>?_⟩ (by omega) ?_
 ·simp only at hj ⊢
  rw [wMY (by simp) (by omega),if_neg (by simp),if_pos (by simp only [nY];omega)]
  have:j=0:=by omega
  subst this
  rfl
 ·rintro i ⟨l,k⟩ hi ⟨q1,q2,q3,q4⟩
  simp only at q1 q2 q3 q4 ⊢
  by_cases c:k < (l.length:Int)
  ·left
   refine ⟨by omega,?_⟩
   have hd:(List.take ((l.length:Int).toNat - k.toNat) (List.drop k.toNat l)).length=l.length - k.toNat:=by
    rw [nI,nZ];omega
   have ht:(List.take (k.toNat - (0:Int).toNat) (List.drop (0:Int).toNat l))=l.take k.toNat:=by simp
   rw [if_pos c,cut,if_pos (by omega),hD,cut,if_pos (by omega),hD,wLc,if_pos (by omega),hD,ht,hd,nI]
   rw [wAW (by omega) (by omega)]
   refine ⟨_,rfl,by simp only;rw [wLF (by omega)];exact q1,by simp only;omega,by simp only;omega,fun j hj=>?_⟩
   simp only at hj ⊢
   rw [wMY (by omega) (by omega),nI]
   by_cases d:j < k.toNat
   ·rw [if_pos d];exact q4 j d
   ·rw [if_neg d,if_pos (by omega)]
    have:=q4 (j - k.toNat) (by omega)
    rw [wFb] at this ⊢
    rw [nj,if_pos (by omega)]
    exact this
  ·right
   rw [if_neg c,wLb]
   have:l=nK n x:=wNx (by simp [q1]) fun j hj=>by
    rw [q4 j (by omega),wCr (by simpa [q1] using hj)];simp
   rw [this]
def wHA (i:Int) (v:Nat):Int:=if i < 0 \/ (v:Int)=i then 0 else 1125899906842624
theorem wMZ (i:Int) (v:Nat):0 <= wHA i v/\wHA i v <= 1125899906842624:=by unfold wHA;split <;> omega
theorem wMu {n:Nat} (i:Int) {l:List Int} (hl:l.length=n) (hn:n <= 1000) (h0:∀ v,v < n->gd l v=1125899906842624):∃ y,(wBg 0 (↑l.length:Int) (fun k1254 l1253 =>
  if i < 0 then
   (chk (↑k1254:Int) l1253.length).bind fun _ =>
   some (nM l1253 k1254 0)
  else
   if (↑k1254:Int)=i then
    (chk (↑k1254:Int) l1253.length).bind fun _ =>
    some (nM l1253 k1254 0)
   else
    some l1253) l)=some y/\y.length=n/\∀ v,v < n->gd y v=wHA i v:=by
 rw [wEr (by omega)]
 obtain ⟨y,e,y1,y2⟩:=wFW (body:=fun (k1254:Nat) (l1253:List Int) =>
  if i < 0 then
   (chk (↑k1254:Int) l1253.length).bind fun _ =>
   some (nM l1253 k1254 0)
  else
   if (↑k1254:Int)=i then
    (chk (↑k1254:Int) l1253.length).bind fun _ =>
    some (nM l1253 k1254 0)
   else
    some l1253) (fun k s=>s.length=n/\∀ v,v < n->gd s v=if v < k then wHA i v else 1125899906842624) l.length 0 l ⟨hl,fun v hv=>by rw [if_neg (by omega)];exact h0 v hv⟩ (by
  rintro k s _ hk ⟨s1,s2⟩
  have hk':k < n:=by omega
  have hset:∀ v,v < n->gd (s.set k 0) v=if v=k then 0 else gd s v:=fun v hv=>wJi (by omega) (by omega)
  by_cases c:i < 0 \/ (k:Int)=i
  ·have hb:(if i < 0 then (chk (↑k:Int) s.length).bind fun _=>some (nM s k 0) else if (↑k:Int)=i then (chk (↑k:Int) s.length).bind fun _=>some (nM s k 0) else some s)=some (s.set k 0):=by
    rw [wCw (by omega) (by omega)]
    rcases c with c | c
    ·rw [if_pos c];rfl
    ·rw [if_pos c]
     split <;> rfl
   refine ⟨_,hb,by simp [s1],fun v hv=>?_⟩
   rw [hset v hv]
   by_cases e:v=k
   ·subst e
    rw [if_pos rfl,if_pos (by omega),wHA,if_pos c]
   ·rw [if_neg e,s2 v hv]
    by_cases d:v < k
    ·rw [if_pos d,if_pos (by omega)]
    ·rw [if_neg d,if_neg (by omega)]
  ·refine ⟨s,by rw [if_neg (fun h=>c (.inl h)),if_neg (fun h=>c (.inr h))],s1,fun v hv=>?_⟩
   rw [s2 v hv]
   by_cases d:v < k
   ·rw [if_pos d,if_pos (by omega)]
   ·by_cases e:v=k
    ·subst e
     rw [if_neg (by omega),if_pos (by omega),wHA,if_neg c]
    ·rw [if_neg d,if_neg (by omega)])
 rw [nc] at y2
 exact ⟨y,e,y1,fun v hv=>by rw [y2 v hv,if_pos (by omega)]⟩
structure SpT (n:Nat) (es:List Ed) (i:Int) (far:List Int):Prop where
 fl:far.length=n
 rl:∀ e ∈ es,gd far e.a < 1125899906842624->gd far e.b <= gd far e.a + e.c
 rg:∀ v,v < n->gd far v=1125899906842624 \/ (-400000000000 <= gd far v/\gd far v <= 400000000000)
 le:∀ v,v < n->gd far v <= wHA i v
 fe:∀ x,wHG es x->(∀ v,v < n->x v <= wHA i v)->∀ v,v < n->x v <= gd far v
structure SpI (n:Nat) (es:List Ed) (i:Int) (t:Nat) (s:SS):Prop where
 fl:s.1.length=n
 bl:s.2.1.length=n
 rg:∀ v,v < n->gd s.1 v=1125899906842624 \/ (-(400000000 * (t:Int)) <= gd s.1 v/\gd s.1 v <= 400000000 * (t:Int))
 le:∀ v,v < n->gd s.1 v <= wHA i v
 fe:∀ x,wHG es x->(∀ v,v < n->x v <= wHA i v)->∀ v,v < n->x v <= gd s.1 v
 st:∀ δ,Most n es (wHA i) δ->(∀ v,v < n->δ v < 1125899906842624)->t <= wNV n δ fun v=>gd s.1 v
 la:t=0 \/ (0 <= s.2.2/\s.2.2 < n)
theorem wIj {d:wAh} {n:Nat} (hn:d.number.length=n) (h1:1 <= n) (h2:n <= 500) (hes:∀ e ∈ d.edges,EdOK n e) (hl:d.edges.length <= 1000) (i:Int) (p:Bool) :
  ∃ f last ok,wAj d i p=some (f,last,ok)/\f.by_.length=n/\f.far.length=n/\(ok=true->SpT n (d.edges.map (ed p)) i f.far)/\(ok=false->0 <= last/\last < n/\∀ δ,Most n (d.edges.map (ed p)) (wHA i) δ->¬ ∀ v,v < n->δ v < 1125899906842624):=by
 unfold wAj
 rw [hn,wIi _ h1 (by omega),hD,wIi _ h1 (by omega),hD,hD]
 simp only
 obtain ⟨y,e1,y1,y2⟩:=wMu (n:=n) i (l:=nK n 1125899906842624) (by simp) (by omega) (fun v hv=>by rw [wCr (by simpa using hv)];simp)
 rw [e1,hD,wAW (by omega) (by omega)]
 have hn1:((n:Int) + 1)=((n + 1:Nat):Int):=by omega
 rw [hn1,wDb (by omega)]
 have hmap:∀ e ∈ d.edges.map (ed p),e.a < n/\e.b < n:=fun e he=>by
  obtain ⟨q,hq,rfl⟩:=nR.1 he
  obtain ⟨a1,a2,a3,a4,_,_⟩:=hes q hq
  unfold ed
  split <;> (simp only;omega)
 rcases wIF (B:=wDR × Int × Bool) (body:=fun (k1336:Nat) ((l1333,l1334,x1335):SS) =>
  (wBg 0 (↑d.edges.length:Int) (spB d.edges p) (l1333,l1334,-1)).bind fun (y1380,y1381,y1382) =>
  if y1382 < 0 then
   esc (some ((⟨y1380,y1381⟩:wDR),0,true))
  else
   some (.inl (y1380,y1381,y1382))) (fun t s=>SpI n (d.edges.map (ed p)) i t s) (fun b=>b.2.2=true/\b.1.by_.length=n/\SpT n (d.edges.map (ed p)) i b.1.far) (n + 1) 0 (y,nK n (-1),-1)
  ⟨y1,by simp,fun v hv=>by simp only;rw [y2 v hv];unfold wHA;split <;> omega,fun v hv=>by simp only;rw [y2 v hv];exact nO _,fun x _ hx v hv=>by simp only;rw [y2 v hv];exact hx v hv,fun _ _ _=>Nat.zero_le _,.inl rfl⟩ (by
   rintro t ⟨far,by_,last⟩ _ ht ⟨fl,bl,rg,le,fe,st,la⟩
   simp only at fl bl rg le fe st
   obtain ⟨⟨far',by',last'⟩,e,P⟩:=wMt hes hl p fl bl (M:=400000000 * (t:Int)) (by omega) (by omega) rg
   obtain ⟨gl,ql,qg,qle,ch,qfe,qst⟩:=P
   simp only at gl ql qg qle ch qfe qst
   simp only
   rw [e,hD]
   simp only
   rcases ch with ⟨c1,c2,c3⟩ | ⟨c1,c2,v,hv,c3⟩
   ·right
    subst c1
    rw [if_pos (by omega)]
    refine ⟨_,rfl,rfl,ql,gl,fun e' he' hlt=>?_,fun v hv=>?_,fun v hv=>Int.le_trans (qle v hv) (le v hv),fun x hx hxt v hv=>qfe x hx (fe x hx hxt) v hv⟩
    ·obtain ⟨q,hq,rfl⟩:=nR.1 he'
     simp only at hlt ⊢
     rw [c2] at hlt ⊢
     rw [nN] at c3
     exact c3 q hq hlt
    ·simp only
     rw [c2]
     rcases rg v hv with q | q
     ·exact .inl q
     ·right;omega
   ·left
    rw [if_neg (by omega)]
    refine ⟨_,rfl,gl,ql,fun v hv=>?_,fun v hv=>Int.le_trans (qle v hv) (le v hv),fun x hx hxt v hv=>qfe x hx (fe x hx hxt) v hv,fun δ M hδ=>?_,.inr ⟨c1,c2⟩⟩
    ·simp only
     rcases qg v hv with q | q
     ·exact .inl q
     ·right;omega
    ·have old:=st δ M hδ
     have lo:=fe δ M.ok M.le
     have lo':=qfe δ M.ok lo
     simp only
     obtain ⟨e',he',g1,g2,g3⟩:=M.tight hmap (fun u=>gd far u) (fun u hu=>le u hu) ⟨v,hv,by have:=lo' v hv;omega⟩ lo
     obtain ⟨q,hq,rfl⟩:=nR.1 he'
     rw [nN] at qst
     have h5:=qst δ M.ok lo hδ q hq g1 g3
     have:=wMq (n:=n) (δ:=δ) (low:=fun u=>gd far u) (low':=fun u=>gd far' u) lo' (fun u hu=>qle u hu) (hmap _ he').2 g2 h5
     omega) with ⟨⟨far,by_,last⟩,e,I⟩ | ⟨⟨f,last,ok⟩,e,h3,h4,h5⟩
 ·refine ⟨⟨far,by_⟩,last,false,?_,I.bl,I.fl,(fun h=>by cases h),fun _=>?_⟩
  ·show jn (forN _ (n + 1) 0 (y,nK n (-1),-1)) _=_
   erw [e]
   rfl
  ·have hla:=I.la
   simp only at hla
   refine ⟨by omega,by omega,fun δ M hδ=>?_⟩
   have h6:0 + (n + 1) <= wNV n δ fun v=>gd far v:=I.st δ M hδ
   have:=wMp n δ fun v=>gd far v
   omega
 ·simp only at h3 h4 h5
  subst h3
  refine ⟨f,last,true,?_,h4,h5.fl,fun _=>h5,fun h=>by cases h⟩
  show jn (forN _ (n + 1) 0 (y,nK n (-1),-1)) _=_
  erw [e]
  rfl
theorem SpT.fin {n:Nat} {R:Int} {es:List Ed} (C:Con n R es) (hc:∀ e ∈ es,e.c <= 400000) {i:Int} {far:List Int} (S:SpT n es i far) {k:Nat} (hk:k < n) (h0:wHA i k=0):∀ v,v < n->gd far v < 1125899906842624 :=
 C.all (fun v=>v < n->gd far v < 1125899906842624) k hk (fun _=>by have:=S.le k hk;omega) (fun e he h _=>by
  obtain ⟨h1,h2⟩:=C.ends e he
  have a:=h h1
  have b:=S.rl e he a
  have c:=hc e he
  rcases S.rg e.a h1 with q | q <;> omega) |> fun h v hv=>h v hv hv
theorem SpT.feas {n:Nat} {R:Int} {es:List Ed} (C:Con n R es) (hc:∀ e ∈ es,e.c <= 400000) {i:Int} {far:List Int} (S:SpT n es i far) {k:Nat} (hk:k < n) (h0:wHA i k=0):wHG es fun v=>gd far v :=
 fun e he=>S.rl e he (S.fin C hc hk h0 e.a (C.ends e he).1)
theorem SpT.isD {n:Nat} {R:Int} (hR:R <= 1000000000000) {es:List Ed} (C:Con n R es) (hc:∀ e ∈ es,e.c <= 400000) {i:Nat} (hi:i < n) {far:List Int} (S:SpT n es i far):IsD n es i fun v=>gd far v:=by
 have t0:wHA i i=0:=by unfold wHA;rw [if_pos (.inr rfl)]
 have F:=S.feas C hc hi t0
 have gr:∀ x,wHG es x->∀ v,v < n->x v - x i <= gd far v:=fun x hx v hv=>by
  have:=S.fe (fun u=>x u + (-(x i))) (wNw hx _) (fun u hu=>by
   show x u + (-(x i)) <= _
   have:=C.near x hx i u hi hu
   unfold wHA
   split
   ·rename_i h
    rcases h with h | h
    ·omega
    ·have:u=i:=by omega
     subst this;omega
   ·omega) v hv
  have this:x v + (-(x i)) <= gd far v:=this
  omega
 have h1:=gr _ F i hi
 have h2:=S.le i hi
 exact ⟨F,by show gd far i=0;omega,gr⟩
end Go.Proofs.YtkghaiefcjgfkaaGreat
namespace Go.Proofs.YtkghaiefcjgfkaaGreat
open Go.KL Go.KL.Net
structure RC (r:wAE):Prop where
 n:1 <= r.Starts.length/\r.Starts.length <= 8
 m:r.Splits.length <= 7
 c:r.Clocks.length <= 4
 q:r.Readings.length <= 40
 st:∀ s ∈ r.Starts,0 <= s/\s <= 360000
 sp:∀ s ∈ r.Splits,s.Lo <= s.Hi/\0 <= s.Lo/\s.Hi <= 360000
 ck:∀ s ∈ r.Clocks,(s.Offset.Lo <= s.Offset.Hi/\-36000 <= s.Offset.Lo/\s.Offset.Hi <= 36000)/\0 <= s.Error/\s.Error <= 600
 rt:∀ x ∈ r.Readings,0 <= x.Time/\x.Time <= 360000
 ru:∀ x ∈ r.Readings,0 <= x.Skier/\x.Skier < r.Starts.length/\0 <= x.Mat/\x.Mat <= r.Splits.length/\0 <= x.Clock/\x.Clock < r.Clocks.length
def zp:wAH:=⟨-1,0⟩
def wGO (r:wAE) (p:wAH):Prop:=p=zp \/ (0 <= p.skier/\p.skier < r.Starts.length/\0 <= p.mat/\p.mat <= r.Splits.length) \/ (p.skier=-1/\1 <= p.mat/\p.mat <= r.Clocks.length)
def wEQ (r:wAE) (x:wAG):Prop :=
 (x.Kind=0/\0 <= x.Skier/\x.Skier < r.Starts.length/\x.Index=0) \/ (x.Kind=1/\0 <= x.Skier/\x.Skier < r.Starts.length/\0 <= x.Index/\x.Index < r.Splits.length) \/
 (x.Kind=2/\x.Skier=0/\0 <= x.Index/\x.Index < r.Clocks.length) \/ (x.Kind=3/\x.Skier=0/\0 <= x.Index/\x.Index < r.Readings.length)
abbrev Pt:=wAH
def wDP (r:wAE) (x:wAG):Pt × Pt × Int × Int :=
 if x.Kind=0 then (zp,⟨x.Skier,0⟩,gd r.Starts x.Skier.toNat,-gd r.Starts x.Skier.toNat)
 else if x.Kind=1 then (⟨x.Skier,x.Index⟩,⟨x.Skier,x.Index + 1⟩,(gd r.Splits x.Index.toNat).Hi,-(gd r.Splits x.Index.toNat).Lo)
 else if x.Kind=2 then (zp,⟨-1,1 + x.Index⟩,-(gd r.Clocks x.Index.toNat).Offset.Lo,(gd r.Clocks x.Index.toNat).Offset.Hi)
 else (⟨-1,1 + (gd r.Readings x.Index.toNat).Clock⟩,⟨(gd r.Readings x.Index.toNat).Skier,(gd r.Readings x.Index.toNat).Mat⟩,(gd r.Readings x.Index.toNat).Time + (gd r.Clocks (gd r.Readings x.Index.toNat).Clock.toNat).Error,(gd r.Clocks (gd r.Readings x.Index.toNat).Clock.toNat).Error - (gd r.Readings x.Index.toNat).Time)
def wDd (r:wAE) (x:wAG):Pt × Pt × Int:=if x.Up=true then ((wDP r x).1,(wDP r x).2.1,(wDP r x).2.2.1) else ((wDP r x).2.1,(wDP r x).1,(wDP r x).2.2.2)
theorem wER {α:Type} [Inhabited α] {l:List α} {i:Int} (h0:0 <= i) (h1:i < l.length):idx l i=some (gd l i.toNat):=by
 obtain ⟨k,rfl⟩:=Int.eq_ofNat_of_zero_le h0
 rw [wBI (by omega)]
 rfl
theorem wCs {α:Type} [Inhabited α] {l:List α} {i:Int} (h0:0 <= i) (h1:i < l.length):gd l i.toNat ∈ l:=wAm (by omega)
theorem wLx {r:wAE} (C:RC r) {x:wAG} (h:wEQ r x):wBU r x=some (wDd r x):=by
 unfold wBU wBT wDj wDk wDl wDm wDn wDo wDW wDX wCf wCF
 have hm:=C.m;have hc:=C.c;have hq:=C.q;have hn:=C.n
 rcases h with ⟨k,a,b,c⟩ | ⟨k,a,b,c,d⟩ | ⟨k,a,c,d⟩ | ⟨k,a,c,d⟩
 ·have g:=C.st _ (wCs a b)
  have e4:wDP r x=(zp,⟨x.Skier,0⟩,gd r.Starts x.Skier.toNat,-gd r.Starts x.Skier.toNat):=if_pos k
  have w:w64 (-gd r.Starts x.Skier.toNat)=-gd r.Starts x.Skier.toNat:=wAW (by omega) (by omega)
  rw [if_pos k,wER a b]
  simp only [hD]
  rw [w]
  unfold wDd
  rw [e4]
  split <;> rfl
 ·have g:=C.sp _ (wCs c d)
  have e4:wDP r x=(⟨x.Skier,x.Index⟩,⟨x.Skier,x.Index + 1⟩,(gd r.Splits x.Index.toNat).Hi,-(gd r.Splits x.Index.toNat).Lo):=(if_neg (by omega)).trans (if_pos k)
  have w:w64 (-(gd r.Splits x.Index.toNat).Lo)=-(gd r.Splits x.Index.toNat).Lo:=wAW (by omega) (by omega)
  have w2:w64 (x.Index + 1)=x.Index + 1:=wAW (by omega) (by omega)
  rw [if_neg (by omega),if_pos k,wER c d]
  simp only [hD]
  rw [w,w2]
  unfold wDd
  rw [e4]
  split <;> rfl
 ·have g:=C.ck _ (wCs c d)
  have e4:wDP r x=(zp,⟨-1,1 + x.Index⟩,-(gd r.Clocks x.Index.toNat).Offset.Lo,(gd r.Clocks x.Index.toNat).Offset.Hi):=(if_neg (by omega)).trans ((if_neg (by omega)).trans (if_pos k))
  have w:w64 (-(gd r.Clocks x.Index.toNat).Offset.Lo)=-(gd r.Clocks x.Index.toNat).Offset.Lo:=wAW (by omega) (by omega)
  have w2:w64 (1 + x.Index)=1 + x.Index:=wAW (by omega) (by omega)
  rw [if_neg (by omega),if_neg (by omega),if_pos k,wER c d]
  simp only [hD]
  rw [w,w2]
  unfold wDd
  rw [e4]
  split <;> rfl
 ·have g:=C.rt _ (wCs c d)
  have u:=C.ru _ (wCs c d)
  have gc:=C.ck _ (wCs u.2.2.2.2.1 u.2.2.2.2.2)
  have e4:wDP r x=(⟨-1,1 + (gd r.Readings x.Index.toNat).Clock⟩,⟨(gd r.Readings x.Index.toNat).Skier,(gd r.Readings x.Index.toNat).Mat⟩,(gd r.Readings x.Index.toNat).Time + (gd r.Clocks (gd r.Readings x.Index.toNat).Clock.toNat).Error,(gd r.Clocks (gd r.Readings x.Index.toNat).Clock.toNat).Error - (gd r.Readings x.Index.toNat).Time):=(if_neg (by omega)).trans ((if_neg (by omega)).trans (if_neg (by omega)))
  rw [if_neg (by omega),if_neg (by omega),if_neg (by omega),if_pos k,wER c d]
  simp only [hD]
  rw [wER u.2.2.2.2.1 u.2.2.2.2.2]
  simp only [hD]
  generalize gd r.Readings x.Index.toNat=X at *
  generalize gd r.Clocks X.Clock.toNat=Y at *
  have w:w64 (X.Time + Y.Error)=X.Time + Y.Error:=wAW (by omega) (by omega)
  have w2:w64 (1 + X.Clock)=1 + X.Clock:=wAW (by omega) (by omega)
  have w3:w64 (Y.Error - X.Time)=Y.Error - X.Time:=wAW (by omega) (by omega)
  rw [w,w2,w3]
  unfold wDd
  rw [e4]
  split <;> rfl
theorem wFt {r:wAE} (C:RC r) {x:wAG} (h:wEQ r x):wGO r (wDd r x).1/\wGO r (wDd r x).2.1/\-400000 <= (wDd r x).2.2/\(wDd r x).2.2 <= 400000:=by
 have key:wGO r (wDP r x).1/\wGO r (wDP r x).2.1/\(-400000 <= (wDP r x).2.2.1/\(wDP r x).2.2.1 <= 400000)/\(-400000 <= (wDP r x).2.2.2/\(wDP r x).2.2.2 <= 400000):=by
  have hn:=C.n
  unfold wDP
  rcases h with ⟨k,a,b,c⟩ | ⟨k,a,b,c,d⟩ | ⟨k,a,c,d⟩ | ⟨k,a,c,d⟩
  ·have g:=C.st _ (wCs a b)
   rw [if_pos k]
   exact ⟨.inl rfl,.inr (.inl ⟨a,b,by simp only;omega,by simp only;omega⟩),by simp only;omega,by simp only;omega⟩
  ·have g:=C.sp _ (wCs c d)
   rw [if_neg (by omega),if_pos k]
   exact ⟨.inr (.inl ⟨a,b,by simp only;omega,by simp only;omega⟩),.inr (.inl ⟨a,b,by simp only;omega,by simp only;omega⟩),by simp only;omega,by simp only;omega⟩
  ·have g:=C.ck _ (wCs c d)
   rw [if_neg (by omega),if_neg (by omega),if_pos k]
   exact ⟨.inl rfl,.inr (.inr ⟨rfl,by simp only;omega,by simp only;omega⟩),by simp only;omega,by simp only;omega⟩
  ·have g:=C.rt _ (wCs c d)
   have u:=C.ru _ (wCs c d)
   have gc:=C.ck _ (wCs u.2.2.2.2.1 u.2.2.2.2.2)
   rw [if_neg (by omega),if_neg (by omega),if_neg (by omega)]
   exact ⟨.inr (.inr ⟨rfl,by simp only;omega,by simp only;omega⟩),.inr (.inl ⟨u.1,u.2.1,u.2.2.1,u.2.2.2.1⟩),by simp only;omega,by simp only;omega⟩
 obtain ⟨h1,h2,h3,h4⟩:=key
 unfold wDd
 split
 ·exact ⟨h1,h2,h3⟩
 ·exact ⟨h2,h1,h4⟩
def two (kind skier i:Nat):List wAG:=[⟨kind,skier,i,true⟩,⟨kind,skier,i,false⟩]
def wIk (kind skier m:Nat):List wAG:=(nU m).flatMap (two kind skier)
def skL (kind ns m:Nat):List wAG:=(nU ns).flatMap fun s=>wIk kind s m
def wIl (r:wAE):List wAG:=skL 0 r.Starts.length 1 ++ (skL 1 r.Starts.length r.Splits.length ++ (skL 2 1 r.Clocks.length ++ skL 3 1 r.Readings.length))
theorem wMv {kind ns m:Nat} {x:wAG}:x ∈ skL kind ns m ↔ x.Kind=kind/\0 <= x.Skier/\x.Skier < ns/\0 <= x.Index/\x.Index < m:=by
 unfold skL wIk two
 simp only [List.mem_flatMap,List.mem_range,nm,nv,or_false]
 constructor
 ·rintro ⟨s,hs,i,hi,rfl | rfl⟩ <;> exact ⟨rfl,by simp only;omega,by simp only;omega,by simp only;omega,by simp only;omega⟩
 ·rintro ⟨a,b,c,d,e⟩
  refine ⟨x.Skier.toNat,by omega,x.Index.toNat,by omega,?_⟩
  obtain ⟨k,s,i,u⟩:=x
  simp only at a b c d e
  subst a
  rw [nG b,nG d]
  cases u <;> simp
theorem wFX {r:wAE} {x:wAG}:x ∈ wIl r ↔ wEQ r x:=by
 unfold wIl wEQ
 simp only [nH,wMv]
 omega
theorem wMw (kind ns m:Nat):(skL kind ns m).length=2 * m * ns:=by
 unfold skL wIk
 rw [kK]
 have:∀ s:Nat,((nU m).flatMap (two kind s)).length=2 * m:=fun s=>by
  rw [kK]
  have e:(nU m).map (fun a=>(two kind s a).length)=nK m 2:=by
   apply List.ext_getElem (by simp)
   intro i h1 h2
   simp [two]
  rw [e,kF]
  omega
 have e:(nU ns).map (fun s=>((nU m).flatMap (two kind s)).length)=nK ns (2 * m):=by
  apply List.ext_getElem (by simp)
  intro i h1 h2
  simp [this]
 rw [e,kF,Nat.mul_comm]
theorem wIm {r:wAE} (C:RC r):(wIl r).length <= 216:=by
 unfold wIl
 simp only [nQ,wMw]
 have hm:=C.m;have hc:=C.c;have hq:=C.q;have hn:=C.n
 have h1:2 * r.Splits.length * r.Starts.length <= 14 * 8:=Nat.mul_le_mul (by omega) hn.2
 omega
section
variable {S E:Type}
def wIM (f:S->wAG->Option (S ⊕ E)):List wAG->S->Option (S ⊕ E)
 | [],s=>some (.inl s)
 | x :: l,s=>(f s x).bind fun y=>match y with
  | .inl s'=>wIM f l s'
  | .inr e=>some (.inr e)
theorem wJj (f:S->wAG->Option (S ⊕ E)):∀ (l m:List wAG) (s:S),wIM f (l ++ m) s=(wIM f l s).bind fun y=>match y with
  | .inl s'=>wIM f m s'
  | .inr e=>some (.inr e)
 | [],_,_=>rfl
 | x :: l,m,s=>by
  rw [nw,wIM,wIM]
  cases f s x with
  | none=>rfl
  | some y=>cases y with
   | inl s'=>exact wJj f l m s'
   | inr e=>rfl
def lif {B:Type} (k:E->B) (x:Option (S ⊕ E)):Option (S ⊕ B):=x.bind fun y=>match y with
 | .inl s=>some (.inl s)
 | .inr e=>some (.inr (k e))
theorem wGm {B:Type} (k:E->B) {body:Nat->S->Option (S ⊕ B)} {f:S->wAG->Option (S ⊕ E)} {L:Nat->List wAG}:∀ (m i:Nat) (s:S),(∀ j s,i <= j->j < i + m->body j s=lif k (wIM f (L j) s))->forN body m i s=lif k (wIM f ((List.range' i m).flatMap L) s)
 | 0,_,_,_=>rfl
 | m + 1,i,s,h=>by
  rw [forN,h i s (kT _) (by omega),List.range'_succ,kS,wJj]
  cases wIM f (L i) s with
  | none=>rfl
  | some y=>cases y with
   | inl s'=>exact wGm k m (i + 1) s' fun j s h1 h2=>h j s (by omega) (by omega)
   | inr e=>rfl
theorem wMa {B:Type} (k:E->B) (x:Option (S ⊕ E)):jn (lif (fun e=>(.inr (k e):S ⊕ B)) x) (fun y=>some (.inl y))=lif k x:=by
 cases x with
 | none=>rfl
 | some y=>cases y <;> rfl
theorem wNz (x:Option (S ⊕ E)):jn (lif (fun e=>(.inr e:S ⊕ E)) x) (fun y=>some (.inl y))=x:=by
 cases x with
 | none=>rfl
 | some y=>cases y <;> rfl
theorem wOA (f:S->wAG->Option (S ⊕ E)) (kind skier i:Nat) (s:S):((f s (⟨(kind:Int),(skier:Int),(i:Int),true⟩:wAG)).bind fun yr141 =>
          match yr141 with
          | .inl s151 =>
            (f s151 (⟨(kind:Int),(skier:Int),(i:Int),false⟩:wAG)).bind fun yr154 =>
            match yr154 with
            | .inl s164 =>
              some (.inl s164)
            | .inr s164 =>
              esc (esc (esc (some (.inr s164))))
          | .inr s151 =>
            esc (esc (esc (some (.inr s151)))))=lif (fun e=>(.inr (.inr (.inr e)):S ⊕ (S ⊕ (S ⊕ E)))) (wIM f (two kind skier i) s):=by
  unfold two
  rw [wIM]
  cases f s (⟨(kind:Int),(skier:Int),(i:Int),true⟩:wAG) with
  | none=>rfl
  | some y=>cases y with
    | inr e=>rfl
    | inl s' =>
      simp only [hD]
      rw [wIM]
      cases f s' (⟨(kind:Int),(skier:Int),(i:Int),false⟩:wAG) with
      | none=>rfl
      | some y=>cases y <;> rfl
theorem wLG (f:S->wAG->Option (S ⊕ E)) (s0:S) {r:wAE} (C:RC r):wCJ f s0 r=wIM f (wIl r) s0:=by
  unfold wCJ
  have hm:=C.m;have hc:=C.c;have hq:=C.q;have hn:=C.n
  have inner:∀ (kind skier m:Nat) (s:S),m <= 1000->(wEG 0 (m:Int) (fun k113 s111 =>
          (f s111 (⟨(kind:Int),(skier:Int),(↑k113:Int),true⟩:wAG)).bind fun yr141 =>
          match yr141 with
          | .inl s151 =>
            (f s151 (⟨(kind:Int),(skier:Int),(↑k113:Int),false⟩:wAG)).bind fun yr154 =>
            match yr154 with
            | .inl s164 =>
              some (.inl s164)
            | .inr s164 =>
              esc (esc (esc (some (.inr s164))))
          | .inr s151 =>
            esc (esc (esc (some (.inr s151))))) s)=lif (fun e=>(.inr (.inr (.inr e)):S ⊕ (S ⊕ (S ⊕ E)))) (wIM f (wIk kind skier m) s):=fun kind skier m s hm=>by
    rw [wDb (by omega),wGm (fun e=>(.inr (.inr (.inr e)):S ⊕ (S ⊕ (S ⊕ E)))) (f:=f) (L:=two kind skier) m 0 s fun j s _ _=>wOA f kind skier j s,<- kG]
    rfl
  have skier:∀ (kind ns m:Nat) (s:S),ns <= 1000->m <= 1000->(jn (wEG 0 (ns:Int) (fun k78 s76 =>
        jn (wEG 0 (m:Int) (fun k113 s111 =>
          (f s111 (⟨(kind:Int),(↑k78:Int),(↑k113:Int),true⟩:wAG)).bind fun yr141 =>
          match yr141 with
          | .inl s151 =>
            (f s151 (⟨(kind:Int),(↑k78:Int),(↑k113:Int),false⟩:wAG)).bind fun yr154 =>
            match yr154 with
            | .inl s164 =>
              some (.inl s164)
            | .inr s164 =>
              esc (esc (esc (some (.inr s164))))
          | .inr s151 =>
            esc (esc (esc (some (.inr s151))))) s76) fun y195 =>
        some (.inl y195)) s) fun y219 =>
      some (.inl y219))=lif (fun e=>(.inr e:S ⊕ E)) (wIM f (skL kind ns m) s):=fun kind ns m s hns hm=>by
    rw [wDb (by omega),wGm (fun e=>(.inr (.inr e):S ⊕ (S ⊕ E))) (f:=f) (L:=fun q=>wIk kind q m) ns 0 s fun j s _ _=>by rw [inner kind j m s hm,wMa],wMa,<- kG]
    rfl
  unfold wEG
  rw [if_pos (by omega)]
  show jn (forN _ 4 0 s0) _=_
  rw [wGm (fun e=>(.inr e:S ⊕ E)) (f:=f) (L:=fun k=>if k=0 then skL 0 r.Starts.length 1 else if k=1 then skL 1 r.Starts.length r.Splits.length else if k=2 then skL 2 1 r.Clocks.length else skL 3 1 r.Readings.length) 4 0 s0 fun j s _ hj=>?_,wNz]
  · congr 1
    show nV _ [0,1,2,3]=_
    simp only [kS,List.flatMap_nil,kE]
    rfl
  · have:j=0 \/ j=1 \/ j=2 \/ j=3:=by omega
    rcases this with rfl | rfl | rfl | rfl
    · exact skier 0 r.Starts.length 1 s (by omega) (by omega)
    · exact skier 1 r.Starts.length r.Splits.length s (by omega) (by omega)
    · exact skier 2 1 r.Clocks.length s (by omega) (by omega)
    · exact skier 3 1 r.Readings.length s (by omega) (by omega)
end
end Go.Proofs.YtkghaiefcjgfkaaGreat
namespace Go.Proofs.YtkghaiefcjgfkaaGreat
open Go.KL Go.KL.Net
def wFH:List Pt->Nat->List (Pt × Int)
 | [],_=>[]
 | p :: l,k=>(p,(k:Int)) :: wFH l (k + 1)
theorem wIH:∀ (l:List Pt) (k:Nat),(wFH l k).length=l.length
 | [],_=>rfl
 | _ :: l,k=>by rw [wFH,nD,nD,wIH l]
theorem wJk:∀ (l:List Pt) (p:Pt) (k:Nat),wFH (l ++ [p]) k=wFH l k ++ [(p,((k + l.length:Nat):Int))]
 | [],p,k=>by simp [wFH]
 | a :: l,p,k=>by
  rw [nw,wFH,wFH,wJk l p (k + 1),nw,nD]
  congr 4
  omega
theorem wJl:∀ {l:List Pt} {k:Nat} {p:Pt},p ∉ l->wIL (wFH l k) p=none/\∀ v,wFe (wFH l k) p v=wFH l k ++ [(p,v)]
 | [],_,_,_=>⟨rfl,fun _=>rfl⟩
 | a :: l,k,p,h=>by
  rw [nm,not_or] at h
  obtain ⟨h1,h2⟩:=wJl (l:=l) (k:=k + 1) h.2
  refine ⟨by rw [wFH,wIL,if_neg h.1];exact h1,fun v=>?_⟩
  rw [wFH,wFe,if_neg h.1,h2 v];rfl
theorem wLH:∀ {l:List Pt} {k i:Nat},l.Nodup->i < l.length->wIL (wFH l k) (gd l i)=some ((k + i:Nat):Int)
 | a :: l,k,0,_,_=>by
  rw [wFH,wIL]
  exact if_pos rfl
 | a :: l,k,i + 1,nd,hi=>by
  rw [List.nodup_cons] at nd
  have hi':i < l.length:=by simpa using hi
  have e:gd (a :: l) (i + 1)=gd l i:=rfl
  have hne:gd l i ≠ a:=fun h=>nd.1 (h ▸ wAm hi')
  rw [e,wFH,wIL,if_neg hne,wLH nd.2 hi']
  congr 2
  omega
def pos (pts:List Pt) (p:Pt):Nat:=(wAv (wFH pts 0) p 0).toNat
theorem wIn {α:Type} [Inhabited α] {l:List α} {a:α} (h:a ∈ l):∃ i,i < l.length/\gd l i=a:=by
 obtain ⟨i,hi,e⟩:=nJ h
 exact ⟨i,hi,by rw [wCr hi,e]⟩
theorem wIo {pts:List Pt} (nd:pts.Nodup) {i:Nat} (hi:i < pts.length):pos pts (gd pts i)=i/\wAv (wFH pts 0) (gd pts i) 0=(i:Int)/\wKa (wFH pts 0) (gd pts i)=true:=by
 unfold pos wAv wKa
 rw [wLH nd hi]
 simp
theorem wHp {pts:List Pt} (nd:pts.Nodup) {p:Pt} (h:p ∈ pts):pos pts p < pts.length/\gd pts (pos pts p)=p/\wAv (wFH pts 0) p 0=(pos pts p:Int)/\wKa (wFH pts 0) p=true:=by
 obtain ⟨i,hi,rfl⟩:=wIn h
 obtain ⟨h1,h2,h3⟩:=wIo nd hi
 rw [h1]
 exact ⟨hi,rfl,h2,h3⟩
def wHH (pts:List Pt) (p:Pt):List Pt:=if p ∈ pts then pts else pts ++ [p]
theorem wJK {pts:List Pt} (nd:pts.Nodup) (p:Pt):(wHH pts p).Nodup:=by
 unfold wHH
 split
 ·exact nd
 ·rename_i h
  rw [nq]
  exact ⟨nd,by simp,fun a ha b hb e=>h (by rw [nA.1 hb] at e;exact e ▸ ha)⟩
theorem wDp {pts:List Pt} {p q:Pt}:q ∈ wHH pts p ↔ q ∈ pts \/ q=p:=by
 unfold wHH
 split
 ·rename_i h
  exact ⟨.inl,fun e=>e.elim id fun e=>e ▸ h⟩
 ·rw [nH,nA]
theorem wJm (pts:List Pt) (p:Pt):pts.length <= (wHH pts p).length/\(wHH pts p).length <= pts.length + 1:=by
 unfold wHH
 split <;> simp
theorem wJn {pts:List Pt} (nd:pts.Nodup) {p q:Pt} (h:q ∈ pts):wAv (wFH (wHH pts p) 0) q 0=wAv (wFH pts 0) q 0:=by
 unfold wHH
 split
 ·rfl
 ·rename_i hp
  obtain ⟨i,hi,rfl⟩:=wIn h
  have e:gd (pts ++ [p]) i=gd pts i:=wDc hi
  have nd2:=wJK nd p
  unfold wHH at nd2
  rw [if_neg hp] at nd2
  rw [(wIo nd hi).2.1,<- e,(wIo nd2 (by rw [nQ];omega)).2.1]
theorem wJo {pts:List Pt} (nd:pts.Nodup) (p:Pt):(if (wKa (wFH pts 0) p)=true then some (wFH pts 0) else some (wFe (wFH pts 0) p (↑((wFH pts 0).length):Int)))=some (wFH (wHH pts p) 0):=by
 by_cases h:p ∈ pts
 ·rw [if_pos (wHp nd h).2.2.2,wHH,if_pos h]
 ·have ho:=wJl (k:=0) h
  have hn:¬ wKa (wFH pts 0) p=true:=by unfold wKa;rw [ho.1];simp
  rw [if_neg hn,ho.2,wHH,if_neg h,wJk,wIH,nc]
theorem wLI {pts:List Pt} {p:Pt} {i:Nat} (h:i < pts.length):gd (wHH pts p) i=gd pts i:=by
 unfold wHH
 split
 ·rfl
 ·exact wDc h
def mkE (r:wAE) (pts:List Pt) (x:wAG):wAg:=⟨x,wAv (wFH pts 0) (wDd r x).1 0,wAv (wFH pts 0) (wDd r x).2.1 0,(wDd r x).2.2⟩
structure Desk (r:wAE) (d:wAh) (pts:List Pt):Prop where
 c:RC r
 race:d.Race=r
 num:d.number=wFH pts 0
 nd:pts.Nodup
 len:1 <= pts.length/\pts.length <= 433
 zero:gd pts 0=zp
 all:∀ p,p ∈ pts ↔ wGO r p
 edges:d.edges=(wIl r).map (mkE r pts)
structure OpI (r:wAE) (pre:List wAG) (s:List wAg × List (Pt × Int)) (pts:List Pt):Prop where
 num:s.2=wFH pts 0
 nd:pts.Nodup
 len:1 <= pts.length/\pts.length <= 1 + 2 * pre.length
 zero:gd pts 0=zp
 ok:∀ p ∈ pts,wGO r p
 has:∀ x ∈ pre,(wDd r x).1 ∈ pts/\(wDd r x).2.1 ∈ pts
 edges:s.1=pre.map (mkE r pts)
def opF (r:wAE):List wAg × List (Pt × Int)->wAG->Option ((List wAg × List (Pt × Int)) ⊕ Empty):=fun (l1591,l1595) x1616 =>
  (wBU r x1616).bind fun (x1652,x1653,x1654) =>
  (wBg 0 2 (fun k1692 l1689 =>
   (idx ([x1652,x1653]:List wAH) (↑k1692:Int)).bind fun x1718 =>
   if (wKa l1689 x1718)=true then
    some l1689
   else
    some (wFe l1689 x1718 (↑(l1689.length):Int))) l1595).bind fun y1697 =>
  (app 56 l1591 [(⟨x1616,(wAv y1697 x1652 0),(wAv y1697 x1653 0),x1654⟩:wAg)]).bind fun x1773 =>
  some (.inl (x1773,y1697))
theorem wOB {r:wAE} (C:RC r) {pre:List wAG} (hp:pre.length <= 216) {x:wAG} (hx:wEQ r x) {s:List wAg × List (Pt × Int)} {pts:List Pt} (I:OpI r pre s pts):∃ s' pts',opF r s x=some (.inl s')/\OpI r (pre ++ [x]) s' pts':=by
 obtain ⟨es,num⟩:=s
 obtain ⟨hn,nd,hl,hz,ok,has,he⟩:=I
 simp only at hn he
 subst hn he
 obtain ⟨o1,o2,_,_⟩:=wFt C hx
 unfold opF
 simp only
 rw [wLx C hx,hD]
 have nd1:=wJK nd (wDd r x).1
 have nd2:=wJK nd1 (wDd r x).2.1
 have loop:(wBg 0 2 (fun k1692 l1689 =>
   (idx ([(wDd r x).1,(wDd r x).2.1]:List wAH) (↑k1692:Int)).bind fun x1718 =>
   if (wKa l1689 x1718)=true then
    some l1689
   else
    some (wFe l1689 x1718 (↑(l1689.length):Int))) (wFH pts 0))=some (wFH (wHH (wHH pts (wDd r x).1) (wDd r x).2.1) 0):=by
  unfold wBg
  rw [if_pos (by omega)]
  show forN' _ 2 0 (wFH pts 0)=_
  have i0:idx ([(wDd r x).1,(wDd r x).2.1]:List wAH) ((0:Nat):Int)=some (wDd r x).1:=rfl
  have i1:idx ([(wDd r x).1,(wDd r x).2.1]:List wAH) ((0 + 1:Nat):Int)=some (wDd r x).2.1:=rfl
  simp only [forN',i0,i1,hD]
  rw [wJo nd]
  simp only
  rw [wJo nd1]
 rw [loop,hD,wEP (by rw [ng];simp only [nD,nL];omega),hD]
 have l1:=wJm pts (wDd r x).1
 have l2:=wJm (wHH pts (wDd r x).1) (wDd r x).2.1
 have same:∀ q ∈ pts,wAv (wFH (wHH (wHH pts (wDd r x).1) (wDd r x).2.1) 0) q 0=wAv (wFH pts 0) q 0:=fun q hq=>by
  rw [wJn nd1 (wDp.2 (.inl hq)),wJn nd hq]
 refine ⟨_,wHH (wHH pts (wDd r x).1) (wDd r x).2.1,rfl,rfl,nd2,⟨by omega,by rw [nQ,nY];omega⟩,?_,fun p hp=>?_,fun y hy=>?_,?_⟩
 ·rw [wLI (by omega),wLI (by omega),hz]
 ·rcases wDp.1 hp with hp | rfl
  ·rcases wDp.1 hp with hp | rfl
   ·exact ok p hp
   ·exact o1
  ·exact o2
 ·rcases nH.1 hy with hy | hy
  ·obtain ⟨a,b⟩:=has y hy
   exact ⟨wDp.2 (.inl (wDp.2 (.inl a))),wDp.2 (.inl (wDp.2 (.inl b)))⟩
  ·have:=nA.1 hy
   subst this
   exact ⟨wDp.2 (.inl (wDp.2 (.inr rfl))),wDp.2 (.inr rfl)⟩
 ·simp only
  rw [kD]
  congr 1
  refine List.map_congr_left fun y hy=>?_
  obtain ⟨a,b⟩:=has y hy
  unfold mkE
  rw [same _ a,same _ b]
theorem skip (r:wAE) (p:Pt) (h:wGO r p) (C:RC r):p=zp \/ ∃ x,wEQ r x/\(wDd r x).2.1=p:=by
 rcases h with h | ⟨a,b,c,d⟩ | ⟨a,b,c⟩
 ·exact .inl h
 ·right
  by_cases e:p.mat=0
  ·refine ⟨⟨0,p.skier,0,true⟩,.inl ⟨rfl,a,b,rfl⟩,?_⟩
   show (⟨p.skier,0⟩:Pt)=p
   rw [<- e]
  ·refine ⟨⟨1,p.skier,p.mat - 1,true⟩,.inr (.inl ⟨rfl,a,b,by simp only;omega,by simp only;omega⟩),?_⟩
   show (⟨p.skier,p.mat - 1 + 1⟩:Pt)=p
   rw [nS]
 ·right
  refine ⟨⟨2,0,p.mat - 1,true⟩,.inr (.inr (.inl ⟨rfl,rfl,by simp only;omega,by simp only;omega⟩)),?_⟩
  show (⟨-1,1 + (p.mat - 1)⟩:Pt)=p
  rw [<- a,nh,nS]
theorem wLJ {r:wAE} (C:RC r):∃ d pts,wDB r=some d/\Desk r d pts:=by
 unfold wDB wCf wDA
 simp only [hD]
 rw [wLG _ _ C]
 have hlen:=wIm C
 have key:∀ (l pre:List wAG) (s:List wAg × List (Pt × Int)) (pts:List Pt),OpI r pre s pts->pre.length + l.length <= 216->(∀ x ∈ l,wEQ r x)->∃ s' pts',wIM (opF r) l s=some (.inl s')/\OpI r (pre ++ l) s' pts':=by
  intro l
  induction l with
  | nil=>intro pre s pts I _ _;exact ⟨s,pts,rfl,by rw [kE];exact I⟩
  | cons x l ih =>
   intro pre s pts I hl hx
   simp only [nD] at hl
   obtain ⟨s1,p1,e,I1⟩:=wOB C (by omega) (hx x (by simp)) I
   obtain ⟨s2,p2,e2,I2⟩:=ih (pre ++ [x]) s1 p1 I1 (by rw [nQ,nY];omega) fun y hy=>hx y (by simp [hy])
   refine ⟨s2,p2,by rw [wIM,e];exact e2,?_⟩
   rw [np] at I2
   exact I2
 obtain ⟨⟨es,num⟩,pts,e,I⟩:=key (wIl r) [] ([],wFe ([]:List (Pt × Int)) (⟨-1,0⟩:wAH) 0) [zp] ⟨rfl,by simp,⟨by simp,by simp⟩,rfl,fun p hp=>.inl (nA.1 hp),(fun x hx=>by cases hx),rfl⟩ (by simpa using hlen) fun x hx=>wFX.1 hx
 rw [List.nil_append] at I
 have hz:zp ∈ pts:=I.zero ▸ wAm I.len.1
 refine ⟨⟨r,num,es⟩,pts,?_,C,rfl,I.num,I.nd,⟨I.len.1,by have:=I.len.2;omega⟩,I.zero,fun p=>⟨I.ok p,fun h=>?_⟩,I.edges⟩
 ·show (wIM (opF r) (wIl r) _).bind _=_
  rw [e]
  rfl
 ·rcases skip r p h C with rfl | ⟨x,hx,rfl⟩
  ·exact hz
  ·exact (I.has x (wFX.2 hx)).2
end Go.Proofs.YtkghaiefcjgfkaaGreat
namespace Go.Proofs.YtkghaiefcjgfkaaGreat
open Go.KL Go.KL.Net
def wDe (r:wAE) (y:Pt->Int):Prop:=∀ x,wEQ r x->y (wDd r x).2.1 <= y (wDd r x).1 + (wDd r x).2.2
section
variable {r:wAE} {y:Pt->Int}
theorem fp0 (F:wDe r y) {s:Int} (h0:0 <= s) (h1:s < r.Starts.length):y ⟨s,0⟩=y zp + gd r.Starts s.toNat:=by
 have a:y ⟨s,0⟩ <= y zp + gd r.Starts s.toNat:=F ⟨0,s,0,true⟩ (.inl ⟨rfl,h0,h1,rfl⟩)
 have b:y zp <= y ⟨s,0⟩ + -gd r.Starts s.toNat:=F ⟨0,s,0,false⟩ (.inl ⟨rfl,h0,h1,rfl⟩)
 omega
theorem fp1 (F:wDe r y) {s k:Int} (h0:0 <= s) (h1:s < r.Starts.length) (k0:0 <= k) (k1:k < r.Splits.length):y ⟨s,k⟩ + (gd r.Splits k.toNat).Lo <= y ⟨s,k + 1⟩/\y ⟨s,k + 1⟩ <= y ⟨s,k⟩ + (gd r.Splits k.toNat).Hi:=by
 have a:y ⟨s,k + 1⟩ <= y ⟨s,k⟩ + (gd r.Splits k.toNat).Hi:=F ⟨1,s,k,true⟩ (.inr (.inl ⟨rfl,h0,h1,k0,k1⟩))
 have b:y ⟨s,k⟩ <= y ⟨s,k + 1⟩ + -(gd r.Splits k.toNat).Lo:=F ⟨1,s,k,false⟩ (.inr (.inl ⟨rfl,h0,h1,k0,k1⟩))
 omega
theorem fp2 (F:wDe r y) {k:Int} (k0:0 <= k) (k1:k < r.Clocks.length):y ⟨-1,1 + k⟩ <= y zp - (gd r.Clocks k.toNat).Offset.Lo/\y zp <= y ⟨-1,1 + k⟩ + (gd r.Clocks k.toNat).Offset.Hi:=by
 have a:y ⟨-1,1 + k⟩ <= y zp + -(gd r.Clocks k.toNat).Offset.Lo:=F ⟨2,0,k,true⟩ (.inr (.inr (.inl ⟨rfl,rfl,k0,k1⟩)))
 have b:y zp <= y ⟨-1,1 + k⟩ + (gd r.Clocks k.toNat).Offset.Hi:=F ⟨2,0,k,false⟩ (.inr (.inr (.inl ⟨rfl,rfl,k0,k1⟩)))
 omega
theorem wHe (C:RC r) (F:wDe r y) {p:Pt} (hp:wGO r p):-3300000 <= y p - y zp/\y p - y zp <= 3300000:=by
 rcases hp with rfl | ⟨a,b,c,d⟩ | ⟨a,b,c⟩
 ·omega
 ·have key:∀ k:Nat,(k:Int) <= r.Splits.length->0 <= y ⟨p.skier,k⟩ - y zp/\y ⟨p.skier,k⟩ - y zp <= 360000 * ((k:Int) + 1):=by
   intro k
   induction k with
   | zero =>
    intro _
    have:=fp0 F a b
    have:=C.st _ (wCs a b)
    show 0 <= y ⟨p.skier,0⟩ - y zp/\y ⟨p.skier,0⟩ - y zp <= _
    omega
   | succ k ih =>
    intro hk
    have h:=ih (by omega)
    have f:=fp1 F a b (k:=(k:Int)) (by omega) (by omega)
    have g:=C.sp _ (wCs (l:=r.Splits) (i:=(k:Int)) (by omega) (by omega))
    have e:((k + 1:Nat):Int)=(k:Int) + 1:=by omega
    rw [e]
    omega
  have:=key p.mat.toNat (by omega)
  rw [nG c] at this
  have hm:=C.m
  have e:(⟨p.skier,p.mat⟩:Pt)=p:=rfl
  rw [e] at this
  omega
 ·have f:=fp2 F (k:=p.mat - 1) (by omega) (by omega)
  have g:=(C.ck _ (wCs (l:=r.Clocks) (i:=p.mat - 1) (by omega) (by omega))).1
  have e:(⟨-1,1 + (p.mat - 1)⟩:Pt)=p:=by rw [<- a,nh,nS]
  rw [e] at f
  omega
theorem to_zp {S:Pt->Prop} (hS:∀ x,wEQ r x->S (wDd r x).1->S (wDd r x).2.1) {p:Pt} (hp:wGO r p) (h:S p):S zp:=by
 rcases hp with rfl | ⟨a,b,c,d⟩ | ⟨a,b,c⟩
 ·exact h
 ·have key:∀ k:Nat,(k:Int) <= r.Splits.length->S ⟨p.skier,k⟩->S zp:=by
   intro k
   induction k with
   | zero=>intro _ hk;exact hS ⟨0,p.skier,0,false⟩ (.inl ⟨rfl,a,b,rfl⟩) hk
   | succ k ih =>
    intro hk h
    refine ih (by omega) ?_
    have e:((k + 1:Nat):Int)=(k:Int) + 1:=by omega
    rw [e] at h
    exact hS ⟨1,p.skier,k,false⟩ (.inr (.inl ⟨rfl,a,b,by simp only;omega,by simp only;omega⟩)) h
  refine key p.mat.toNat (by omega) ?_
  rw [nG c];exact h
 ·have e:(⟨-1,1 + (p.mat - 1)⟩:Pt)=p:=by rw [<- a,nh,nS]
  refine hS ⟨2,0,p.mat - 1,false⟩ (.inr (.inr (.inl ⟨rfl,rfl,by simp only;omega,by simp only;omega⟩))) ?_
  show S ⟨-1,1 + (p.mat - 1)⟩
  rw [e];exact h
theorem of_zp {S:Pt->Prop} (hS:∀ x,wEQ r x->S (wDd r x).1->S (wDd r x).2.1) (h:S zp) {p:Pt} (hp:wGO r p):S p:=by
 rcases hp with rfl | ⟨a,b,c,d⟩ | ⟨a,b,c⟩
 ·exact h
 ·have key:∀ k:Nat,(k:Int) <= r.Splits.length->S ⟨p.skier,k⟩:=by
   intro k
   induction k with
   | zero=>intro _;exact hS ⟨0,p.skier,0,true⟩ (.inl ⟨rfl,a,b,rfl⟩) h
   | succ k ih =>
    intro hk
    have e:((k + 1:Nat):Int)=(k:Int) + 1:=by omega
    rw [e]
    exact hS ⟨1,p.skier,k,true⟩ (.inr (.inl ⟨rfl,a,b,by simp only;omega,by simp only;omega⟩)) (ih (by omega))
  have:=key p.mat.toNat (by omega)
  rw [nG c] at this
  exact this
 ·have e:(⟨-1,1 + (p.mat - 1)⟩:Pt)=p:=by rw [<- a,nh,nS]
  have:=hS ⟨2,0,p.mat - 1,true⟩ (.inr (.inr (.inl ⟨rfl,rfl,by simp only;omega,by simp only;omega⟩))) h
  rw [<- e];exact this
def turn (x:wAG):wAG:=⟨x.Kind,x.Skier,x.Index,!x.Up⟩
theorem wMx {x:wAG} (h:wEQ r x):wEQ r (turn x)/\(wDd r (turn x)).1=(wDd r x).2.1/\(wDd r (turn x)).2.1=(wDd r x).1:=by
 refine ⟨h,?_⟩
 obtain ⟨k,s,i,u⟩:=x
 unfold wDd turn
 cases u <;> exact ⟨rfl,rfl⟩
structure IsDP (r:wAE) (a:Pt) (f:Pt->Int):Prop where
 ok:wDe r f
 zero:f a=0
 gr:∀ y,wDe r y->∀ p,wGO r p->y p - y a <= f p
theorem IsDP.one {a:Pt} {f g:Pt->Int} (F:IsDP r a f) (G:IsDP r a g) {p:Pt} (hp:wGO r p):f p=g p:=by
 have h1:=F.gr g G.ok p hp
 have h2:=G.gr f F.ok p hp
 have:=F.zero;have:=G.zero
 omega
theorem IsDP.near {a:Pt} {f:Pt->Int} (C:RC r) (F:IsDP r a f) (ha:wGO r a) {p:Pt} (hp:wGO r p):-6600000 <= f p/\f p <= 6600000:=by
 have h1:=wHe C F.ok ha
 have h2:=wHe C F.ok hp
 have:=F.zero
 omega
end
section
variable {r:wAE} {d:wAh} {pts:List Pt} (D:Desk r d pts)
include D
theorem Desk.pos_ok {p:Pt} (hp:wGO r p):pos pts p < pts.length/\gd pts (pos pts p)=p/\wAv d.number p 0=(pos pts p:Int):=by
 obtain ⟨h1,h2,h3,_⟩:=wHp D.nd ((D.all p).2 hp)
 exact ⟨h1,h2,by rw [D.num];exact h3⟩
theorem Desk.gd_ok {v:Nat} (hv:v < pts.length):wGO r (gd pts v)/\pos pts (gd pts v)=v:=⟨(D.all _).1 (wAm hv),(wIo D.nd hv).1⟩
theorem Desk.ed_is {x:wAG} (h:wEQ r x) (p:Bool):ed p (mkE r pts x)=if p then ⟨pos pts (wDd r x).2.1,pos pts (wDd r x).1,(wDd r x).2.2⟩ else ⟨pos pts (wDd r x).1,pos pts (wDd r x).2.1,(wDd r x).2.2⟩:=by
 obtain ⟨o1,o2,_,_⟩:=wFt D.c h
 have h1:=(wHp D.nd ((D.all _).2 o1)).2.2.1
 have h2:=(wHp D.nd ((D.all _).2 o2)).2.2.1
 unfold ed mkE
 simp only [h1,h2,hJ]
theorem Desk.mem {p:Bool} {e:Ed}:e ∈ d.edges.map (ed p) ↔ ∃ x,wEQ r x/\e=ed p (mkE r pts x):=by
 rw [D.edges,List.map_map]
 constructor
 ·intro h
  obtain ⟨x,hx,rfl⟩:=nR.1 h
  exact ⟨x,wFX.1 hx,rfl⟩
 ·rintro ⟨x,hx,rfl⟩
  exact nR.2 ⟨x,wFX.2 hx,rfl⟩
theorem Desk.edOK:∀ e ∈ d.edges,EdOK pts.length e:=by
 intro e he
 rw [D.edges] at he
 obtain ⟨x,hx,rfl⟩:=nR.1 he
 have h:=wFX.1 hx
 obtain ⟨o1,o2,c1,c2⟩:=wFt D.c h
 obtain ⟨h1,_,h2,_⟩:=wHp D.nd ((D.all _).2 o1)
 obtain ⟨g1,_,g2,_⟩:=wHp D.nd ((D.all _).2 o2)
 unfold mkE
 rw [h2,g2]
 exact ⟨by simp only;omega,by simp only;omega,by simp only;omega,by simp only;omega,c1,c2⟩
theorem Desk.elen:d.edges.length <= 1000:=by
 have:=wIm D.c
 rw [D.edges,ng]
 omega
theorem Desk.feas {y:Pt->Int} (F:wDe r y):wHG (d.edges.map (ed false)) fun v=>y (gd pts v):=by
 intro e he
 obtain ⟨x,hx,rfl⟩:=D.mem.1 he
 obtain ⟨o1,o2,_,_⟩:=wFt D.c hx
 rw [D.ed_is hx]
 simp only [nP,if_false]
 rw [(D.pos_ok o1).2.1,(D.pos_ok o2).2.1]
 exact F x hx
theorem Desk.back {z:Nat->Int} (F:wHG (d.edges.map (ed false)) z):wDe r fun p=>z (pos pts p):=by
 intro x hx
 have:=F _ (D.mem.2 ⟨x,hx,rfl⟩)
 rw [D.ed_is hx] at this
 simp only [nP,if_false] at this
 exact this
theorem Desk.backT {z:Nat->Int} (F:wHG (d.edges.map (ed true)) z):wDe r fun p=>-z (pos pts p):=by
 intro x hx
 have:=F _ (D.mem.2 ⟨x,hx,rfl⟩)
 rw [D.ed_is hx] at this
 simp only [if_true] at this
 simp only
 omega
theorem Desk.con (p:Bool):Con pts.length 6600000 (d.edges.map (ed p)):=by
 refine ⟨fun e he=>?_,fun z hz a b ha hb=>?_,fun S i hi hSi hS v hv=>?_⟩
 ·obtain ⟨x,hx,rfl⟩:=D.mem.1 he
  obtain ⟨o1,o2,_,_⟩:=wFt D.c hx
  have h1:=(D.pos_ok o1).1
  have h2:=(D.pos_ok o2).1
  rw [D.ed_is hx]
  split
  ·exact ⟨h2,h1⟩
  ·exact ⟨h1,h2⟩
 ·obtain ⟨pa,ea⟩:=D.gd_ok ha
  obtain ⟨pb,eb⟩:=D.gd_ok hb
  cases p with
  | false =>
   have h1:=wHe D.c (D.back hz) pa
   have h2:=wHe D.c (D.back hz) pb
   simp only [ea,eb] at h1 h2
   omega
  | true =>
   have h1:=wHe D.c (D.backT hz) pa
   have h2:=wHe D.c (D.backT hz) pb
   simp only [ea,eb] at h1 h2
   omega
 ·have hcl:∀ x,wEQ r x->S (pos pts (wDd r x).1)->S (pos pts (wDd r x).2.1):=fun x hx h=>by
   cases p with
   | false =>
    have:=hS _ (D.mem.2 ⟨x,hx,rfl⟩)
    rw [D.ed_is hx] at this
    simp only [nP,if_false] at this
    exact this h
   | true =>
    obtain ⟨t1,t2,t3⟩:=wMx hx
    have:=hS _ (D.mem.2 ⟨_,t1,rfl⟩)
    rw [D.ed_is t1] at this
    simp only [if_true] at this
    rw [t2,t3] at this
    exact this h
  obtain ⟨pi,ei⟩:=D.gd_ok hi
  obtain ⟨pv,ev⟩:=D.gd_ok hv
  have:=of_zp (S:=fun q=>S (pos pts q)) hcl (to_zp (S:=fun q=>S (pos pts q)) hcl pi (by show S (pos pts (gd pts i));rw [ei];exact hSi)) pv
  have this:S (pos pts (gd pts v)):=this
  rwa [ev] at this
theorem Desk.cost (p:Bool):∀ e ∈ d.edges.map (ed p),e.c <= 400000:=by
 intro e he
 obtain ⟨x,hx,rfl⟩:=D.mem.1 he
 obtain ⟨_,_,_,c⟩:=wFt D.c hx
 rw [D.ed_is hx]
 split <;> exact c
theorem Desk.nlen:d.number.length=pts.length:=by rw [D.num,wIH]
theorem Desk.zeroP:pos pts zp=0:=by
 have:=(wIo D.nd (i:=0) (by have:=D.len;omega)).1
 rwa [D.zero] at this
theorem Desk.any:∃ f last ok,wAj d (-1) false=some (f,last,ok)/\f.far.length=pts.length/\f.by_.length=pts.length/\(ok=true ↔ ∃ y,wDe r y)/\(ok=true->wDe r fun p=>gd f.far (pos pts p))/\(ok=false->0 <= last/\last < pts.length):=by
 obtain ⟨f,last,ok,e,bl,fl,h1,h2⟩:=wIj D.nlen D.len.1 (by have:=D.len.2;omega) D.edOK D.elen (-1) false
 have hp:0 < pts.length:=D.len.1
 have t0:wHA (-1) 0=0:=by unfold wHA;rw [if_pos (.inl (by omega))]
 have feas:ok=true->wDe r fun p=>gd f.far (pos pts p):=fun h=>D.back ((h1 h).feas (D.con false) (D.cost false) hp t0)
 refine ⟨f,last,ok,e,fl,bl,⟨fun h=>⟨_,feas h⟩,fun ⟨y,hy⟩=>?_⟩,feas,fun h=>⟨(h2 h).1,(h2 h).2.1⟩⟩
 cases ok with
 | true=>rfl
 | false =>
  exfalso
  obtain ⟨δ,M⟩:=wLE (D.con false) (D.feas hy) hp t0 (fun v _=>(wMZ (-1) v).1)
  exact (h2 rfl).2.2 δ M fun v hv=>by have:=M.hi (D.con false) hp t0 v hv;omega
theorem Desk.from_ (hy:∃ y,wDe r y) {a:Pt} (ha:wGO r a):∃ f last,wAj d (pos pts a:Int) false=some (f,last,true)/\f.far.length=pts.length/\IsDP r a fun p=>gd f.far (pos pts p):=by
 obtain ⟨f,last,ok,e,bl,fl,h1,h2⟩:=wIj D.nlen D.len.1 (by have:=D.len.2;omega) D.edOK D.elen (pos pts a:Int) false
 obtain ⟨hp,hg,_⟩:=D.pos_ok ha
 have t0:wHA (pos pts a:Int) (pos pts a)=0:=by unfold wHA;rw [if_pos (.inr rfl)]
 obtain ⟨y,hy⟩:=hy
 have hok:ok=true:=by
  cases ok with
  | true=>rfl
  | false =>
   exfalso
   obtain ⟨δ,M⟩:=wLE (D.con false) (D.feas hy) hp t0 (fun v _=>(wMZ _ v).1)
   exact (h2 rfl).2.2 δ M fun v hv=>by have:=M.hi (D.con false) hp t0 v hv;omega
 subst hok
 have I:=(h1 rfl).isD (by omega) (D.con false) (D.cost false) hp
 refine ⟨f,last,e,fl,D.back I.ok,I.zero,fun z hz p hpt=>?_⟩
 have:=I.gr _ (D.feas hz) (pos pts p) (D.pos_ok hpt).1
 simp only [hg,(D.pos_ok hpt).2.1] at this
 exact this
end
end Go.Proofs.YtkghaiefcjgfkaaGreat
namespace Go.Proofs.YtkghaiefcjgfkaaGreat
open Go.KL Go.KL.Net
def inB (n lo hi:Int):Bool:=decide (lo <= n/\n <= hi)
theorem wJL (n lo hi:Int):wBR n lo hi=some (inB n lo hi):=by
 unfold wBR inB
 by_cases h:lo <= n
 ·rw [if_pos h];simp [h]
 ·rw [if_neg h];simp [h]
def wLy (s:wAI) (lo hi:Int):Bool:=decide (s.Lo <= s.Hi/\lo <= s.Lo/\s.Hi <= hi)
theorem wHq (s:wAI) (lo hi:Int):wCl s lo hi=some (wLy s lo hi):=by
 unfold wCl wLy
 by_cases h:s.Lo <= s.Hi
 ·by_cases h2:lo <= s.Lo
  ·rw [if_pos h,if_pos h2];simp [h,h2]
  ·rw [if_pos h,if_neg h2];simp [h2]
 ·rw [if_neg h];simp [h]
theorem wLK {l:List Int} {f:Int->Option Bool} {p:Int->Bool} (hf:∀ a ∈ l,f a=some (p a)) (hn:l.length <= 1000):wCW l f=some (l.all p):=by
 unfold wCW
 refine (wGI (R:=Bool) (p:=p) (z:=false) (K:=fun _=>some true) (fun a ha=>?_) (by omega)).trans ?_
 ·rw [hf a ha,hD];split <;> rfl
 ·split <;> simp_all
theorem wKF {l:List wAI} {f:wAI->Option Bool} {p:wAI->Bool} (hf:∀ a ∈ l,f a=some (p a)) (hn:l.length <= 1000):wBc l f=some (l.all p):=by
 unfold wBc
 refine (wGI (R:=Bool) (p:=p) (z:=false) (K:=fun _=>some true) (fun a ha=>?_) (by omega)).trans ?_
 ·rw [hf a ha,hD];split <;> rfl
 ·split <;> simp_all
theorem wJM {l:List wAL} {f:wAL->Option Bool} {p:wAL->Bool} (hf:∀ a ∈ l,f a=some (p a)) (hn:l.length <= 1000):wBS l f=some (l.all p):=by
 unfold wBS
 refine (wGI (R:=Bool) (p:=p) (z:=false) (K:=fun _=>some true) (fun a ha=>?_) (by omega)).trans ?_
 ·rw [hf a ha,hD];split <;> rfl
 ·split <;> simp_all
theorem wGL {l:List wAK} {f:wAK->Option Bool} {p:wAK->Bool} (hf:∀ a ∈ l,f a=some (p a)) (hn:l.length <= 1000):wAx l f=some (l.all p):=by
 unfold wAx
 refine (wGI (R:=Bool) (p:=p) (z:=false) (K:=fun _=>some true) (fun a ha=>?_) (by omega)).trans ?_
 ·rw [hf a ha,hD];split <;> rfl
 ·split <;> simp_all
structure wGh (r:wAE):Prop where
 n:r.Starts.length <= 10
 m:r.Splits.length <= 9
 c:r.Clocks.length <= 6
 q:r.Readings.length <= 44
def stP (s:Int):Bool:=inB s 0 360000
def spP (s:wAI):Bool:=wLy s 0 360000
def ckP (c:wAL):Bool:=wLy c.Offset (-36000) 36000 && inB c.Error 0 600
def rtP (x:wAK):Bool:=inB x.Time 0 360000
def ruP (r:wAE) (x:wAK):Bool:=inB x.Skier 0 ((r.Starts.length:Int) - 1) && (inB x.Mat 0 r.Splits.length && inB x.Clock 0 ((r.Clocks.length:Int) - 1))
def code (r:wAE):Int :=
 if ¬ (1 <= r.Starts.length/\r.Starts.length <= 8) then 2 else if 7 < r.Splits.length then 2 else if 4 < r.Clocks.length then 2 else if 40 < r.Readings.length then 2
 else if r.Starts.all stP=true then (if r.Splits.all spP=true then (if r.Clocks.all ckP=true then (if r.Readings.all rtP=true then (if r.Readings.all (ruP r)=true then 0 else 1) else 3) else 3) else 3) else 3
theorem wLL {r:wAE} (h:code r=0):RC r:=by
 unfold code at h
 split at h
 ·omega
 ·split at h
  ·omega
  ·split at h
   ·omega
   ·split at h
    ·omega
    ·split at h
     ·split at h
      ·split at h
       ·split at h
        ·split at h
         ·rename_i a1 a2 a3 a4 h1 h2 h3 h4 h5
          rw [nW] at h1 h2 h3 h4 h5
          refine ⟨by omega,by omega,by omega,by omega,fun s hs=>?_,fun s hs=>?_,fun s hs=>?_,fun s hs=>?_,fun s hs=>?_⟩
          ·have:=h1 s hs
           simp only [stP,inB,decide_eq_true_eq] at this
           exact this
          ·have:=h2 s hs
           simp only [spP,wLy,decide_eq_true_eq] at this
           exact this
          ·have:=h3 s hs
           simp only [ckP,wLy,inB,nE,decide_eq_true_eq] at this
           exact this
          ·have:=h4 s hs
           simp only [rtP,inB,decide_eq_true_eq] at this
           exact this
          ·have:=h5 s hs
           simp only [ruP,inB,nE,decide_eq_true_eq] at this
           omega
         ·omega
        ·omega
       ·omega
      ·omega
     ·omega
theorem wLM {r:wAE} (S:wGh r) (s:wAP):wAn r s=some (inB s.Skier 0 ((r.Starts.length:Int) - 1) && inB s.Mat 0 r.Splits.length):=by
 have:=S.n
 unfold wAn
 rw [wAW (by omega) (by omega),wJL,hD,wJL,hD]
 cases inB s.Skier 0 ((r.Starts.length:Int) - 1)
 ·rw [if_neg (by simp)];rfl
 ·rw [if_pos rfl,Bool.true_and]
theorem wKG {r:wAE} (S:wGh r):wCd r=some (code r):=by
 have hn:=S.n;have hm:=S.m;have hc:=S.c;have hq:=S.q
 unfold wCd code
 rw [wJL,hD]
 by_cases c1:1 <= r.Starts.length/\r.Starts.length <= 8
 ·have e1:inB (r.Starts.length:Int) 1 8=true:=by unfold inB;rw [decide_eq_true_eq];omega
  rw [e1,if_pos rfl,if_neg (show ¬ ¬ (1 <= r.Starts.length/\r.Starts.length <= 8) from fun h=>h c1)]
  by_cases c2:7 < r.Splits.length
  ·rw [if_pos (show (7:Int) < (r.Splits.length:Int) by omega),if_pos c2]
  ·rw [if_neg (show ¬ (7:Int) < (r.Splits.length:Int) by omega),if_neg c2]
   by_cases c3:4 < r.Clocks.length
   ·rw [if_pos (show (4:Int) < (r.Clocks.length:Int) by omega),if_pos c3]
   ·rw [if_neg (show ¬ (4:Int) < (r.Clocks.length:Int) by omega),if_neg c3]
    by_cases c4:40 < r.Readings.length
    ·rw [if_pos (show (40:Int) < (r.Readings.length:Int) by omega),if_pos c4]
    ·rw [if_neg (show ¬ (40:Int) < (r.Readings.length:Int) by omega),if_neg c4]
     rw [wLK (p:=stP) (fun a _=>by unfold wCk;rw [wJL];rfl) (by omega),hD]
     rw [wKF (p:=spP) (fun a _=>by unfold wCm;rw [wHq];rfl) (by omega),hD]
     rw [wJM (p:=ckP) (fun a _=>by
      unfold wCn ckP
      rw [wHq,hD,wJL,hD]
      cases wLy a.Offset (-36000) 36000
      ·rw [if_neg (by simp)];rfl
      ·rw [if_pos rfl];rfl) (by omega),hD]
     rw [wGL (p:=rtP) (fun a _=>by unfold wCo;rw [wJL];rfl) (by omega),hD]
     rw [wGL (p:=ruP r) (fun a _=>by
      unfold wCp ruP
      rw [wLM S,hD,wAW (by omega) (by omega),wJL,hD]
      simp only
      cases inB a.Skier 0 ((r.Starts.length:Int) - 1)
      ·rw [if_neg (by simp)];rfl
      ·cases inB a.Mat 0 (r.Splits.length:Int)
       ·rw [if_neg (by simp)];rfl
       ·simp) (by omega),hD]
     split
     ·split
      ·split
       ·split
        ·split <;> rfl
        ·rfl
       ·rfl
      ·rfl
     ·rfl
 ·have e1:inB (r.Starts.length:Int) 1 8=false:=by unfold inB;rw [decide_eq_false_iff_not];omega
  rw [e1,if_neg (by simp),if_pos c1]
end Go.Proofs.YtkghaiefcjgfkaaGreat
namespace Go.Proofs.YtkghaiefcjgfkaaGreat
open Go.KL Go.KL.Net
open Classical
def wHf (r:wAE) (s:wAP):Bool:=inB s.Skier 0 ((r.Starts.length:Int) - 1) && inB s.Mat 0 r.Splits.length
def pt (s:wAP):Pt:=⟨s.Skier,s.Mat⟩
theorem wGb {r:wAE} {s:wAP} (h:wHf r s=true):wGO r (pt s)/\0 <= s.Skier/\s.Skier < r.Starts.length/\0 <= s.Mat/\s.Mat <= r.Splits.length:=by
 simp only [wHf,inB,nE,decide_eq_true_eq] at h
 exact ⟨.inr (.inl ⟨h.1.1,by simp only [pt];omega,h.2.1,h.2.2⟩),h.1.1,by omega,h.2.1,h.2.2⟩
noncomputable def wII (r:wAE) (l:List wAP):Int:=if code r=0 then (if l.all (wHf r)=true then (if ∃ y,wDe r y then 0 else 7) else 1) else code r
theorem err0 {r:wAE} {l:List wAP} (h:wII r l=0):RC r/\code r=0/\l.all (wHf r)=true/\∃ y,wDe r y:=by
 unfold wII at h
 split at h
 ·split at h
  ·split at h
   ·rename_i a b c
    exact ⟨wLL a,a,b,c⟩
   ·omega
  ·omega
 ·contradiction
theorem wJp {r:wAE} (S:wGh r):(code r ≠ 0/\wCP r=some (none,code r)) \/ (code r=0/\∃ d pts,wCP r=some (some d,0)/\Desk r d pts):=by
 unfold wCP
 rw [wKG S,hD]
 by_cases c:code r=0
 ·right
  obtain ⟨d,pts,e,D⟩:=wLJ (wLL c)
  refine ⟨c,d,pts,?_,D⟩
  rw [if_pos c,e];rfl
 ·left
  exact ⟨c,if_neg c⟩
end Go.Proofs.YtkghaiefcjgfkaaGreat
namespace Go.Proofs.YtkghaiefcjgfkaaGreat
open Go.KL Go.KL.Net
open Classical
theorem wKH {l:List wAP} {f:wAP->Option Bool} {p:wAP->Bool} (hf:∀ a ∈ l,f a=some (p a)) (hn:l.length <= 1000):wBJ l f=some (l.all p):=by
 unfold wBJ
 refine (wGI (R:=Bool) (p:=p) (z:=false) (K:=fun _=>some true) (fun a ha=>?_) (by omega)).trans ?_
 ·rw [hf a ha,hD];split <;> rfl
 ·split <;> simp_all
section
variable {r:wAE} {d:wAh} {pts:List Pt} (D:Desk r d pts)
include D
theorem Desk.holds:∃ b,wAy d=some b/\(b=true ↔ ∃ y,wDe r y):=by
 obtain ⟨f,last,ok,e,_,_,h,_⟩:=D.any
 refine ⟨ok,?_,h⟩
 unfold wAy
 rw [e];rfl
end
theorem wJq {r:wAE} (S:wGh r) {l:List wAP} (hl:l.length <= 10):∃ o,wCe r l=some (o,wII r l)/\(wII r l=0->∃ d pts,o=some d/\Desk r d pts)/\(wII r l ≠ 0->o=none):=by
 unfold wCe
 rcases wJp S with ⟨c,e⟩ | ⟨c,d,pts,e,D⟩
 ·have ee:wII r l=code r:=by unfold wII;rw [if_neg c]
  refine ⟨none,?_,fun h=>absurd (ee ▸ h) c,fun _=>rfl⟩
  rw [e,hD,ee]
  simp only
  rw [if_neg c]
 ·rw [e,hD]
  simp only
  rw [if_pos trivial,wKH (p:=wHf r) (fun s _=>wLM S s) (by omega),hD]
  by_cases c2:l.all (wHf r)=true
  ·rw [if_pos c2]
   obtain ⟨b,e3,h3⟩:=D.holds
   rw [e3,hD]
   by_cases c3:∃ y,wDe r y
   ·have ee:wII r l=0:=by unfold wII;rw [if_pos c,if_pos c2,if_pos c3]
    rw [if_pos (h3.2 c3),ee]
    exact ⟨_,rfl,fun _=>⟨d,pts,rfl,D⟩,fun h=>absurd rfl h⟩
   ·have ee:wII r l=7:=by unfold wII;rw [if_pos c,if_pos c2,if_neg c3]
    rw [if_neg (fun h=>c3 (h3.1 h)),ee]
    exact ⟨_,rfl,fun h=>by omega,fun _=>rfl⟩
  ·have ee:wII r l=1:=by unfold wII;rw [if_pos c,if_neg c2]
   rw [if_neg c2,ee]
   exact ⟨_,rfl,fun h=>by omega,fun _=>rfl⟩
end Go.Proofs.YtkghaiefcjgfkaaGreat
namespace Go.Proofs.YtkghaiefcjgfkaaGreat
open Go.KL Go.KL.Net
open Classical
structure F4 (r:wAE) (y:Pt->Int):Prop where
 a:∀ s:Nat,s < r.Starts.length->y ⟨(s:Int),0⟩=y zp + gd r.Starts s
 b:∀ s k:Nat,s < r.Starts.length->k < r.Splits.length->(gd r.Splits k).Lo <= y ⟨(s:Int),(k:Int) + 1⟩ - y ⟨(s:Int),(k:Int)⟩/\y ⟨(s:Int),(k:Int) + 1⟩ - y ⟨(s:Int),(k:Int)⟩ <= (gd r.Splits k).Hi
 c:∀ k:Nat,k < r.Clocks.length->y ⟨-1,1 + (k:Int)⟩ <= y zp - (gd r.Clocks k).Offset.Lo/\y zp <= y ⟨-1,1 + (k:Int)⟩ + (gd r.Clocks k).Offset.Hi
 d:∀ x ∈ r.Readings,y ⟨x.Skier,x.Mat⟩ <= y ⟨-1,1 + x.Clock⟩ + (x.Time + (gd r.Clocks x.Clock.toNat).Error)/\y ⟨-1,1 + x.Clock⟩ <= y ⟨x.Skier,x.Mat⟩ + ((gd r.Clocks x.Clock.toNat).Error - x.Time)
theorem wLz {r:wAE} {y:Pt->Int}:wDe r y ↔ F4 r y:=by
 constructor
 ·intro F
  refine ⟨fun s hs=>?_,fun s k hs hk=>?_,fun k hk=>?_,fun x hx=>?_⟩
  ·have h:=fp0 F (s:=(s:Int)) (by omega) (by omega)
   rwa [hJ] at h
  ·have h:=fp1 F (s:=(s:Int)) (k:=(k:Int)) (by omega) (by omega) (by omega) (by omega)
   rw [hJ] at h
   omega
  ·have h:=fp2 F (k:=(k:Int)) (by omega) (by omega)
   rwa [hJ] at h
  ·obtain ⟨k,hk,rfl⟩:=wIn hx
   have a:y ⟨(gd r.Readings k).Skier,(gd r.Readings k).Mat⟩ <= y ⟨-1,1 + (gd r.Readings k).Clock⟩ + ((gd r.Readings k).Time + (gd r.Clocks (gd r.Readings k).Clock.toNat).Error):=F ⟨3,0,(k:Int),true⟩ (.inr (.inr (.inr ⟨rfl,rfl,by simp only;omega,by simp only;omega⟩)))
   have b:y ⟨-1,1 + (gd r.Readings k).Clock⟩ <= y ⟨(gd r.Readings k).Skier,(gd r.Readings k).Mat⟩ + ((gd r.Clocks (gd r.Readings k).Clock.toNat).Error - (gd r.Readings k).Time):=F ⟨3,0,(k:Int),false⟩ (.inr (.inr (.inr ⟨rfl,rfl,by simp only;omega,by simp only;omega⟩)))
   exact ⟨a,b⟩
 ·rintro ⟨h1,h2,h3,h4⟩ x hx
  have key:y (wDP r x).2.1 <= y (wDP r x).1 + (wDP r x).2.2.1/\y (wDP r x).1 <= y (wDP r x).2.1 + (wDP r x).2.2.2:=by
   unfold wDP
   rcases hx with ⟨k,a,b,c⟩ | ⟨k,a,b,c,d⟩ | ⟨k,a,c,d⟩ | ⟨k,a,c,d⟩
   ·have h:=h1 x.Skier.toNat (by omega)
    rw [nG a] at h
    rw [if_pos k]
    simp only
    omega
   ·have h:=h2 x.Skier.toNat x.Index.toNat (by omega) (by omega)
    rw [nG a,nG c] at h
    rw [if_neg (by omega),if_pos k]
    simp only
    omega
   ·have h:=h3 x.Index.toNat (by omega)
    rw [nG c] at h
    rw [if_neg (by omega),if_neg (by omega),if_pos k]
    simp only
    omega
   ·have h:=h4 _ (wCs c d)
    rw [if_neg (by omega),if_neg (by omega),if_neg (by omega)]
    simp only
    omega
  unfold wDd
  split
  ·exact key.1
  ·exact key.2
end Go.Proofs.YtkghaiefcjgfkaaGreat
namespace Go.Proofs.YtkghaiefcjgfkaaGreat
open Go.KL Go.KL.Net
open Classical
def wKI (f:Nat->Int):Nat->Int
 | 0=>0
 | k + 1=>wKI f k + f k
def yU (r:wAE) (f:Nat->Nat->Int) (p:Pt):Int:=if p.skier=-1 then (if p.mat=0 then 0 else -(gd r.Clocks (p.mat - 1).toNat).Offset.Lo) else gd r.Starts p.skier.toNat + wKI (f p.skier.toNat) p.mat.toNat
theorem yU_s (r:wAE) (f:Nat->Nat->Int) (s k:Nat):yU r f ⟨(s:Int),(k:Int)⟩=gd r.Starts s + wKI (f s) k:=by
 unfold yU
 rw [if_neg (by simp only;omega)]
 simp only [hJ]
theorem yU_c (r:wAE) (f:Nat->Nat->Int) (k:Nat):yU r f ⟨-1,1 + (k:Int)⟩=-(gd r.Clocks k).Offset.Lo:=by
 unfold yU
 rw [if_pos rfl,if_neg (by simp only;omega),show ((1:Int) + (k:Int) - 1).toNat=k by omega]
def InSp (r:wAE) (f:Nat->Nat->Int):Prop:=∀ s k,s < r.Starts.length->k < r.Splits.length->(gd r.Splits k).Lo <= f s k/\f s k <= (gd r.Splits k).Hi
theorem feasU {r:wAE} (C:RC r) {f:Nat->Nat->Int} (hf:InSp r f) (hd:∀ x ∈ r.Readings,yU r f ⟨x.Skier,x.Mat⟩ <= yU r f ⟨-1,1 + x.Clock⟩ + (x.Time + (gd r.Clocks x.Clock.toNat).Error)/\yU r f ⟨-1,1 + x.Clock⟩ <= yU r f ⟨x.Skier,x.Mat⟩ + ((gd r.Clocks x.Clock.toNat).Error - x.Time)):wDe r (yU r f):=by
 rw [wLz]
 have yz:yU r f zp=0:=rfl
 refine ⟨fun s hs=>?_,fun s k hs hk=>?_,fun k hk=>?_,hd⟩
 ·have:=yU_s r f s 0
  rw [yz]
  rw [show ((0:Nat):Int)=0 from rfl] at this
  rw [this]
  simp only [wKI]
  omega
 ·have:=hf s k hs hk
  have h1:=yU_s r f s (k + 1)
  rw [show ((k + 1:Nat):Int)=(k:Int) + 1 by omega] at h1
  rw [h1,yU_s r f s k,wKI]
  omega
 ·have c:=C.ck _ (wAm hk)
  rw [yU_c,yz]
  omega
theorem wOC {r:wAE} {y:Pt->Int} (F:wDe r y) {s:Nat} (hs:s < r.Starts.length):∀ k:Nat,k <= r.Splits.length->y zp + gd r.Starts s + wKI (fun j=>(gd r.Splits j).Lo) k <= y ⟨(s:Int),(k:Int)⟩/\y ⟨(s:Int),(k:Int)⟩ <= y zp + gd r.Starts s + wKI (fun j=>(gd r.Splits j).Hi) k
 | 0,_=>by
  have:=(wLz.1 F).a s hs
  rw [show ((0:Nat):Int)=0 from rfl,this]
  simp only [wKI]
  omega
 | k + 1,h=>by
  have a:=wOC F hs k (by omega)
  have b:=(wLz.1 F).b s k hs (by omega)
  rw [show ((k + 1:Nat):Int)=(k:Int) + 1 by omega]
  simp only [wKI]
  omega
end Go.Proofs.YtkghaiefcjgfkaaGreat
namespace Go.Proofs.YtkghaiefcjgfkaaGreat
open Go.KL Go.KL.Net
open Classical
def yT (T:List (List Int)) (O:List Int) (p:Pt):Int:=if p.skier=-1 then (if p.mat=0 then 0 else -gd O (p.mat - 1).toNat) else gd (gd T p.skier.toNat) p.mat.toNat
theorem wLN (T:List (List Int)) (O:List Int):yT T O zp=0:=rfl
theorem wFE (T:List (List Int)) (O:List Int) {s k:Int} (h:0 <= s):yT T O ⟨s,k⟩=gd (gd T s.toNat) k.toNat:=if_neg (by simp only;omega)
theorem wGM (T:List (List Int)) (O:List Int) {k:Int} (h:0 <= k):yT T O ⟨-1,1 + k⟩=-gd O k.toNat:=by
 unfold yT
 rw [if_pos rfl,if_neg (by simp only;omega),show (1 + k - 1)=k by omega]
structure Lens (r:wAE) (T:List (List Int)) (O:List Int):Prop where
 t:T.length=r.Starts.length
 l:∀ k,k < r.Starts.length->(gd T k).length=r.Splits.length + 1
 o:O.length=r.Clocks.length
def wNW (r:wAE) (T:List (List Int)) (k:Nat):Bool:=decide (gd (gd T k) 0=gd r.Starts k) && wLY (fun j=>inB (gd (gd T k) (j + 1) - gd (gd T k) j) (gd r.Splits j).Lo (gd r.Splits j).Hi) r.Splits.length 0
def wOD (r:wAE) (O:List Int) (k:Nat):Bool:=inB (gd O k) (gd r.Clocks k).Offset.Lo (gd r.Clocks k).Offset.Hi
def wOE (r:wAE) (T:List (List Int)) (O:List Int) (k:Nat):Bool :=
 inB ((gd r.Readings k).Time - gd (gd T (gd r.Readings k).Skier.toNat) (gd r.Readings k).Mat.toNat - gd O (gd r.Readings k).Clock.toNat) (-(gd r.Clocks (gd r.Readings k).Clock.toNat).Error) (gd r.Clocks (gd r.Readings k).Clock.toNat).Error
theorem wJr {r:wAE} (C:RC r) {T:List (List Int)} {O:List Int}:wDe r (yT T O) ↔ wLY (wNW r T) r.Starts.length 0=true/\wLY (wOD r O) r.Clocks.length 0=true/\wLY (wOE r T O) r.Readings.length 0=true:=by
 simp only [wCO]
 constructor
 ·intro F
  refine ⟨fun k _ hk=>?_,fun k _ hk=>?_,fun k _ hk=>?_⟩
  ·have h0:=fp0 F (s:=(k:Int)) (by omega) (by omega)
   rw [wFE _ _ (by omega),wLN,hJ,Int.zero_add] at h0
   unfold wNW
   rw [nE]
   refine ⟨decide_eq_true h0,(wCO _ _ _).2 fun j _ hj=>?_⟩
   have h1:=fp1 F (s:=(k:Int)) (k:=(j:Int)) (by omega) (by omega) (by omega) (by omega)
   rw [wFE _ _ (by omega),wFE _ _ (by omega),hJ,hJ,show ((j:Int) + 1).toNat=j + 1 by omega] at h1
   unfold inB
   rw [decide_eq_true_eq]
   omega
  ·have h:=fp2 F (k:=(k:Int)) (by omega) (by omega)
   rw [wGM _ _ (by omega),wLN,hJ] at h
   unfold wOD inB
   rw [decide_eq_true_eq]
   omega
  ·have u:=C.ru _ (wAm (show k < r.Readings.length by omega))
   have a:yT T O ⟨(gd r.Readings k).Skier,(gd r.Readings k).Mat⟩ <= yT T O ⟨-1,1 + (gd r.Readings k).Clock⟩ + ((gd r.Readings k).Time + (gd r.Clocks (gd r.Readings k).Clock.toNat).Error):=F ⟨3,0,(k:Int),true⟩ (.inr (.inr (.inr ⟨rfl,rfl,by simp only;omega,by simp only;omega⟩)))
   have b:yT T O ⟨-1,1 + (gd r.Readings k).Clock⟩ <= yT T O ⟨(gd r.Readings k).Skier,(gd r.Readings k).Mat⟩ + ((gd r.Clocks (gd r.Readings k).Clock.toNat).Error - (gd r.Readings k).Time):=F ⟨3,0,(k:Int),false⟩ (.inr (.inr (.inr ⟨rfl,rfl,by simp only;omega,by simp only;omega⟩)))
   rw [wFE _ _ u.1,wGM _ _ u.2.2.2.2.1] at a b
   unfold wOE inB
   rw [decide_eq_true_eq]
   omega
 ·rintro ⟨h1,h2,h3⟩ x hx
  have key:yT T O (wDP r x).2.1 <= yT T O (wDP r x).1 + (wDP r x).2.2.1/\yT T O (wDP r x).1 <= yT T O (wDP r x).2.1 + (wDP r x).2.2.2:=by
   unfold wDP
   rcases hx with ⟨k,a,b,c⟩ | ⟨k,a,b,c,d⟩ | ⟨k,a,c,d⟩ | ⟨k,a,c,d⟩
   ·have h:=h1 x.Skier.toNat (by omega) (by omega)
    unfold wNW at h
    rw [nE,decide_eq_true_eq] at h
    rw [if_pos k]
    simp only
    rw [wFE _ _ a,wLN,Int.toNat_zero,h.1]
    omega
   ·have h:=h1 x.Skier.toNat (by omega) (by omega)
    unfold wNW at h
    rw [nE] at h
    have g:=(wCO _ _ _).1 h.2 x.Index.toNat (by omega) (by omega)
    unfold inB at g
    rw [decide_eq_true_eq] at g
    rw [if_neg (by omega),if_pos k]
    simp only
    rw [wFE _ _ a,wFE _ _ a,show (x.Index + 1).toNat=x.Index.toNat + 1 by omega]
    omega
   ·have h:=h2 x.Index.toNat (by omega) (by omega)
    unfold wOD inB at h
    rw [decide_eq_true_eq] at h
    rw [if_neg (by omega),if_neg (by omega),if_pos k]
    simp only
    rw [wGM _ _ c,wLN]
    omega
   ·have h:=h3 x.Index.toNat (by omega) (by omega)
    unfold wOE inB at h
    rw [decide_eq_true_eq] at h
    have u:=C.ru _ (wCs c d)
    rw [if_neg (by omega),if_neg (by omega),if_neg (by omega)]
    simp only
    rw [wFE _ _ u.1,wGM _ _ u.2.2.2.2.1]
    omega
  unfold wDd
  split
  ·exact key.1
  ·exact key.2
def smlR (T:List (List Int)) (k:Nat):Bool:=wLY (fun j=>inB (gd (gd T k) j) (-100000000) 100000000) (gd T k).length 0
def smlO (O:List Int) (k:Nat):Bool:=inB (gd O k) (-100000000) 100000000
end Go.Proofs.YtkghaiefcjgfkaaGreat
namespace Go.Proofs.YtkghaiefcjgfkaaGreat
open Go.KL
theorem wLO {a b:Int} (h0:0 <= a) (hb:0 < b):∃ x,rem a b=some x/\0 <= x/\x < b:=by
 refine ⟨a.tmod b,if_neg (by omega),?_,?_⟩
 ·rw [nn h0];exact Int.emod_nonneg _ (by omega)
 ·rw [nn h0];exact Int.emod_lt_of_pos _ hb
theorem wJN (x:Int):0 <= wFJ x:=by unfold wFJ;omega
theorem wMy (x:Int):wFJ x < 4294967296:=by unfold wFJ;omega
theorem w64u (x:Int):w64 (wFJ x)=wFJ x:=by
 have:=wJN x
 have:=wMy x
 exact wAW (by omega) (by omega)
theorem wMA (a:Int) {b:Int} (hb:b ≠ 0):∃ x,quo a b=some x:=⟨_,if_neg hb⟩
theorem wES (d:wAJ) (n:Int) (h0:0 <= d.next) (h1:d.next <= 1000000):∃ x d',wAQ d n=some (x,d')/\0 <= d'.next/\d'.next <= d.next + 1/\0 <= x/\(x < n \/ (n <= 1/\x=0)):=by
 unfold wAQ
 by_cases hn:n <= 1
 ·exact ⟨0,d,by rw [if_pos hn],h0,by omega,by omega,.inr ⟨hn,rfl⟩⟩
 rw [if_neg hn]
 by_cases hl:(d.bytes.length:Int)=0
 ·exact ⟨0,d,by rw [if_pos hl],h0,by omega,by omega,.inl (by omega)⟩
 rw [if_neg hl]
 obtain ⟨r,e1,r0,r1⟩:=wLO h0 (show (0:Int) < d.bytes.length by omega)
 obtain ⟨b,e2⟩:∃ b,idx d.bytes r=some b:=by
  unfold idx
  rw [if_pos r0,ny (by omega)]
  exact ⟨_,rfl⟩
 obtain ⟨q,e3⟩:=wMA d.next (b:=d.bytes.length) hl
 obtain ⟨st,e4,_,_⟩:=wLO (wJN ((wFJ ((wFJ ((wFJ (d.state * 45)) + (wFJ b))) + (wFJ (77 * (wFJ q))))) + 1)) (b:=65519) (by decide)
 rw [e1,hD,e2,hD,e3,hD,e4,hD,wAW (x:=d.next + 1) (by omega) (by omega)]
 have fin:∀ z:Int,∃ x d',((rem (w64 (wFJ z)) n).bind fun x=>some (x,(⟨d.bytes,d.next + 1,st⟩:wAJ)))=some (x,d')/\0 <= d'.next/\d'.next <= d.next + 1/\0 <= x/\(x < n \/ (n <= 1/\x=0)):=by
  intro z
  obtain ⟨x,e5,x0,x1⟩:=wLO (a:=w64 (wFJ z)) (b:=n) (by rw [w64u];exact wJN z) (by omega)
  exact ⟨x,_,by rw [e5];rfl,by show 0 <= d.next + 1;omega,by show d.next + 1 <= _;omega,x0,.inl x1⟩
 by_cases c1:wFJ q=0
 ·rw [if_pos c1]
  by_cases c2:n <= 256
  ·rw [if_pos c2];exact fin _
  ·rw [if_neg c2];exact fin _
 ·rw [if_neg c1];exact fin _
theorem wFu (d:wAJ) (a b:Int) (h0:0 <= d.next) (h1:d.next <= 1000000) (ha:-1000000 <= a) (hab:a <= b) (hb:b <= 1000000):∃ x d',wAS d a b=some (x,d')/\0 <= d'.next/\d'.next <= d.next + 1/\a <= x/\x <= b:=by
 unfold wAS
 rw [wAW (x:=b - a) (by omega) (by omega),wAW (x:=b - a + 1) (by omega) (by omega)]
 obtain ⟨x,d',e,n0,n1,x0,x1⟩:=wES d (b - a + 1) h0 h1
 refine ⟨a + x,d',?_,n0,n1,by omega,by omega⟩
 rw [e,hD]
 simp only
 rw [wAW (by omega) (by omega)]
end Go.Proofs.YtkghaiefcjgfkaaGreat
namespace Go.Proofs.YtkghaiefcjgfkaaGreat
open Go.KL Go.KL.Net
open Classical
theorem wMz {r:wAE} (C:RC r):code r=0:=by
 unfold code
 rw [if_neg (fun h=>h C.n),if_neg (by have:=C.m;omega),if_neg (by have:=C.c;omega),if_neg (by have:=C.q;omega),if_pos (nW.2 fun s hs=>by
  have:=C.st s hs
  unfold stP inB
  rw [decide_eq_true_eq];omega),if_pos (nW.2 fun s hs=>by
  have:=C.sp s hs
  unfold spP wLy
  rw [decide_eq_true_eq];omega),if_pos (nW.2 fun s hs=>by
  have:=C.ck s hs
  unfold ckP wLy inB
  rw [nE,decide_eq_true_eq,decide_eq_true_eq];omega),if_pos (nW.2 fun s hs=>by
  have:=C.rt s hs
  unfold rtP inB
  rw [decide_eq_true_eq];omega),if_pos (nW.2 fun s hs=>by
  have:=C.ru s hs
  unfold ruP inB
  rw [nE,nE,decide_eq_true_eq,decide_eq_true_eq,decide_eq_true_eq];omega)]
theorem wED {S:Type} {body:Nat->S->Option S} {n:Nat} {s0:S} (I:Nat->S->Prop) (hn:n <= 1000) (h0:I 0 s0) (h:∀ i s,i < n->I i s->∃ s',body i s=some s'/\I (i + 1) s'):∃ s,wBg 0 (n:Int) body s0=some s/\I n s:=by
 rw [wEr (by omega)]
 have:=wFW (body:=body) I n 0 s0 h0 fun i s _ h2 h3=>h i s (by omega) h3
 rwa [nc] at this
theorem wIJ {α:Type} {l:List α} {a:α} {P:α->Prop} (h:∀ x ∈ l,P x) (ha:P a):∀ x ∈ l ++ [a],P x:=fun x hx=>by
 rcases nH.1 hx with h1 | h1
 ·exact h x h1
 ·rw [nA.1 h1];exact ha
def m1B:Nat->List Int × Int × Int × List Int->Option (List Int × Int × Int × List Int):=fun k62 (l53,x56,x57,l58) =>
  (wAQ (⟨l53,x56,x57⟩:wAJ) 4).bind fun (x142,x143) =>
  (wAQ x143 3).bind fun (x156,x157) =>
  (app 8 l58 [w64 ((w64 (300 * x142)) + x156)]).bind fun x175 =>
  some (x157.bytes,x157.next,x157.state,x175)
def m2B:Nat->List Int × Int × Int × List wAI->Option (List Int × Int × Int × List wAI):=fun k274 (l265,x268,x269,l270) =>
  (wAS (⟨l265,x268,x269⟩:wAJ) 3 9).bind fun (x305,x306) =>
  (wAQ x306 30).bind fun (x353,x354) =>
  (app 16 l270 [(⟨w64 (100 * x305),w64 ((w64 (100 * x305)) + (w64 (10 * x353)))⟩:wAI)]).bind fun x372 =>
  some (x354.bytes,x354.next,x354.state,x372)
def m3I (y282:List wAI):Nat->List Int × Int × Int × Int × List Int->Option (List Int × Int × Int × Int × List Int):=fun k541 (l532,x535,x536,x537,l538) =>
      (chk (↑k541:Int) y282.length).bind fun _ =>
      (wAS (⟨l532,x535,x536⟩:wAJ) ((gd y282 k541).Lo) ((gd y282 k541).Hi)).bind fun (x589,x590) =>
      (app 8 l538 [w64 (x537 + x589)]).bind fun x609 =>
      some (x590.bytes,x590.next,x590.state,w64 (x537 + x589),x609)
def m3B (y70:List Int) (y282:List wAI):Nat->List Int × Int × Int × List (List Int)->Option (List Int × Int × Int × List (List Int)):=fun k460 (l450,x453,x454,l455) =>
  (chk (↑k460:Int) y70.length).bind fun _ =>
  (wBg 0 (↑y282.length:Int) (m3I y282) (l450,x453,x454,(gd y70 k460),[(gd y70 k460)])).bind fun (y546,y547,y548,y549,y550) =>
  (app 24 l455 [y550]).bind fun x672 =>
  some (y546,y547,y548,x672)
def m4B:Nat->List Int × Int × Int × List wAL × List Int->Option (List Int × Int × Int × List wAL × List Int):=fun k792 (l779,x782,x783,l784,l788) =>
  (wAS (⟨l779,x782,x783⟩:wAJ) (-60) 20).bind fun (x826,x827) =>
  (wAQ x827 50).bind fun (x840,x841) =>
  (wAQ x841 6).bind fun (x854,x855) =>
  (app 24 l784 [(⟨(⟨x826,w64 (x826 + x840)⟩:wAI),x854⟩:wAL)]).bind fun x880 =>
  (wAS x855 x826 (w64 (x826 + x840))).bind fun (x888,x889) =>
  (app 8 l788 [x888]).bind fun x908 =>
  some (x889.bytes,x889.next,x889.state,x880,x908)
def m5B (y70:List Int) (y282:List wAI) (y468:List (List Int)) (y800:List wAL) (y801:List Int):Nat->List Int × Int × Int × List wAK->Option (List Int × Int × Int × List wAK):=fun k1736 (l1727,x1730,x1731,l1732) =>
  ((wAQ (⟨l1727,x1730,x1731⟩:wAJ) (↑y70.length:Int)).bind fun (x1833,x1834) =>
  (wAQ x1834 (w64 ((↑y282.length:Int) + 1))).bind fun (x1847,x1848) =>
  (wAQ x1848 (↑y800.length:Int)).bind fun (x1861,x1862) =>
  some (x1862.bytes,x1862.next,x1862.state,x1833,x1847,x1861)).bind fun (l1767,x1770,x1771,x1774,x1775,x1776) =>
  (chk x1776 y800.length).bind fun _ =>
  (idx y468 x1774).bind fun x2140 =>
  (idx x2140 x1775).bind fun x2156 =>
  (chk x1776 y801.length).bind fun _ =>
  (wAS (⟨l1767,x1770,x1771⟩:wAJ) (w64 (-((gd y800 x1776.toNat).Error))) ((gd y800 x1776.toNat).Error)).bind fun (x2171,x2172) =>
  if (w64 (-((gd y800 x1776.toNat).Error))) <= (w64 ((w64 ((max 0 (w64 ((w64 (x2156 + (gd y801 x1776.toNat))) + x2171))) - x2156)) - (gd y801 x1776.toNat))) then
   if (w64 ((w64 ((max 0 (w64 ((w64 (x2156 + (gd y801 x1776.toNat))) + x2171))) - x2156)) - (gd y801 x1776.toNat))) <= ((gd y800 x1776.toNat).Error) then
    (app 32 l1732 [(⟨x1774,x1775,x1776,max 0 (w64 ((w64 (x2156 + (gd y801 x1776.toNat))) + x2171))⟩:wAK)]).bind fun x2225 =>
    some (x2172.bytes,x2172.next,x2172.state,x2225)
   else
    some (x2172.bytes,x2172.next,x2172.state,l1732)
  else
   some (x2172.bytes,x2172.next,x2172.state,l1732)
theorem wJO (p0:wAJ) (p1 p2 p3:Int):wCI p0 p1 p2 p3=(wAS p0 1 p1).bind fun (x10,x11) =>
 (wBg 0 x10 m1B (x11.bytes,x11.next,x11.state,[])).bind fun (y67,y68,y69,y70) =>
 (wAQ (⟨y67,y68,y69⟩:wAJ) p2).bind fun (x223,x224) =>
 (wBg 0 x223 m2B (x224.bytes,x224.next,x224.state,[])).bind fun (y279,y280,y281,y282) =>
 (wBg 0 (↑y70.length:Int) (m3B y70 y282) (y279,y280,y281,[])).bind fun (y465,y466,y467,y468) =>
 (wAS (⟨y465,y466,y467⟩:wAJ) 1 3).bind fun (x726,x727) =>
 (wBg 0 x726 m4B (x727.bytes,x727.next,x727.state,[],[])).bind fun (y797,y798,y799,y800,y801) =>
 (wAQ (⟨y797,y798,y799⟩:wAJ) (w64 (p3 + 1))).bind fun (x1667,x1668) =>
 (wBg 0 x1667 (m5B y70 y282 y468 y800 y801) (x1668.bytes,x1668.next,x1668.state,[])).bind fun (y1741,y1742,y1743,y1744) =>
 some ((⟨y70,y282,y800,y1744⟩:wAE),y468,y801,(⟨y1741,y1742,y1743⟩:wAJ)):=rfl
def M1 (n:Int) (k:Nat) (s:List Int × Int × Int × List Int):Prop:=0 <= s.2.1/\s.2.1 <= n + 2 * (k:Int)/\s.2.2.2.length=k/\∀ x ∈ s.2.2.2,0 <= x/\x <= 902
theorem wNA {n:Int} (n0:0 <= n) (n1:n <= 1000) {k:Nat} (hk:k < 10) {s:List Int × Int × Int × List Int} (I:M1 n k s):∃ s',m1B k s=some s'/\M1 n (k + 1) s':=by
 obtain ⟨b,nx,st,l⟩:=s
 obtain ⟨i0,i1,hl,he⟩:=I
 simp only at i0 i1 hl he
 unfold m1B
 simp only
 obtain ⟨x,d1,e1,p0,p1,x0,x1⟩:=wES ⟨b,nx,st⟩ 4 i0 (by simp only;omega)
 obtain ⟨y,d2,e2,q0,q1,y0,y1⟩:=wES d1 3 p0 (by simp only at p1;omega)
 simp only at p1
 rw [e1,hD]
 simp only
 rw [e2,hD]
 simp only
 rw [wAW (x:=300 * x) (by omega) (by omega),wAW (by omega) (by omega),wEP (by simp only [nD,nL];omega),hD]
 exact ⟨_,rfl,q0,by simp only;omega,by simp [hl],wIJ he (by omega)⟩
def M2 (n:Int) (k:Nat) (s:List Int × Int × Int × List wAI):Prop:=0 <= s.2.1/\s.2.1 <= n + 2 * (k:Int)/\s.2.2.2.length=k/\∀ x ∈ s.2.2.2,300 <= x.Lo/\x.Lo <= x.Hi/\x.Hi <= 1190
theorem wNB {n:Int} (n0:0 <= n) (n1:n <= 1000) {k:Nat} (hk:k < 10) {s:List Int × Int × Int × List wAI} (I:M2 n k s):∃ s',m2B k s=some s'/\M2 n (k + 1) s':=by
 obtain ⟨b,nx,st,l⟩:=s
 obtain ⟨i0,i1,hl,he⟩:=I
 simp only at i0 i1 hl he
 unfold m2B
 simp only
 obtain ⟨x,d1,e1,p0,p1,x0,x1⟩:=wFu ⟨b,nx,st⟩ 3 9 i0 (by simp only;omega) (by omega) (by omega) (by omega)
 simp only at p1
 obtain ⟨y,d2,e2,q0,q1,y0,y1⟩:=wES d1 30 p0 (by omega)
 rw [e1,hD]
 simp only
 rw [e2,hD]
 simp only
 rw [wAW (x:=100 * x) (by omega) (by omega),wAW (x:=10 * y) (by omega) (by omega),wAW (by omega) (by omega),wEP (by simp only [nD,nL];omega),hD]
 exact ⟨_,rfl,q0,by simp only;omega,by simp [hl],wIJ he (by simp only;omega)⟩
structure RowI (sp:List wAI) (s0:Int) (j:Nat) (l:List Int):Prop where
 len:l.length=j + 1
 z:gd l 0=s0
 d:∀ i,i < j->(gd sp i).Lo <= gd l (i + 1) - gd l i/\gd l (i + 1) - gd l i <= (gd sp i).Hi
 b:∀ i,i < j + 1->0 <= gd l i/\gd l i <= 902 + 1190 * (i:Int)
def M3 (sp:List wAI) (s0 n:Int) (k:Nat) (s:List Int × Int × Int × Int × List Int):Prop:=0 <= s.2.1/\s.2.1 <= n + (k:Int)/\s.2.2.2.1=gd s.2.2.2.2 k/\RowI sp s0 k s.2.2.2.2
theorem wNC {sp:List wAI} (hsp:∀ x ∈ sp,300 <= x.Lo/\x.Lo <= x.Hi/\x.Hi <= 1190) {s0 n:Int} (n0:0 <= n) (n1:n <= 1000) {k:Nat} (hk:k < sp.length) (hk2:k < 10) {s:List Int × Int × Int × Int × List Int} (I:M3 sp s0 n k s):∃ s',m3I sp k s=some s'/\M3 sp s0 n (k + 1) s':=by
 obtain ⟨b,nx,st,t,l⟩:=s
 obtain ⟨i0,i1,ht,R⟩:=I
 simp only at i0 i1 ht R
 have hs:=hsp _ (wAm hk)
 have hb:=R.b k (by omega)
 have hl:=R.len
 unfold m3I
 simp only
 obtain ⟨x,d1,e1,p0,p1,x0,x1⟩:=wFu ⟨b,nx,st⟩ (gd sp k).Lo (gd sp k).Hi i0 (by simp only;omega) (by omega) (by omega) (by omega)
 simp only at p1
 rw [wCw (by omega) (by omega),hD,e1,hD]
 simp only
 rw [wAW (x:=t + x) (by omega) (by omega),wEP (by simp only [nD,nL];omega),hD]
 have gk:gd (l ++ [t + x]) (k + 1)=t + x:=by rw [<- hl,wGK]
 refine ⟨_,rfl,p0,by simp only;omega,gk.symm,by simp [hl],?_,fun i hi=>?_,fun i hi=>?_⟩
 ·simp only
  rw [wDc (by omega)];exact R.z
 ·simp only
  by_cases c:i=k
  ·rw [c,gk,wDc (by omega)]
   omega
  ·rw [wDc (by omega),wDc (by omega)]
   exact R.d i (by omega)
 ·simp only
  by_cases c:i=k + 1
  ·rw [c,gk];omega
  ·rw [wDc (by omega)]
   exact R.b i (by omega)
def M3o (st:List Int) (sp:List wAI) (n:Int) (k:Nat) (s:List Int × Int × Int × List (List Int)):Prop:=0 <= s.2.1/\s.2.1 <= n + 10 * (k:Int)/\s.2.2.2.length=k/\∀ i,i < k->RowI sp (gd st i) sp.length (gd s.2.2.2 i)
theorem wMB {st:List Int} (hst:∀ x ∈ st,0 <= x/\x <= 902) {sp:List wAI} (hl:sp.length <= 9) (hsp:∀ x ∈ sp,300 <= x.Lo/\x.Lo <= x.Hi/\x.Hi <= 1190) {n:Int} (n0:0 <= n) (n1:n <= 800) {k:Nat} (hk:k < st.length) (hk2:k < 10) {s:List Int × Int × Int × List (List Int)} (I:M3o st sp n k s):∃ s',m3B st sp k s=some s'/\M3o st sp n (k + 1) s':=by
 obtain ⟨b,nx,se,l⟩:=s
 obtain ⟨i0,i1,hll,he⟩:=I
 simp only at i0 i1 hll he
 have hs:=hst _ (wAm hk)
 unfold m3B
 simp only
 obtain ⟨⟨b',nx',st',t',l'⟩,e,J0,J1,_,J⟩:=wED (n:=sp.length) (body:=m3I sp) (s0:=(b,nx,se,gd st k,[gd st k])) (M3 sp (gd st k) nx) (by omega) ⟨i0,by simp only;omega,rfl,rfl,rfl,(fun i hi=>by omega),fun i hi=>by
  obtain rfl:i=0:=by omega
  show 0 <= gd st k/\gd st k <= _
  omega⟩ fun i s hi I=>wNC hsp i0 (by omega) hi (by omega) I
 simp only at J0 J1 J
 rw [wCw (by omega) (by omega),hD,e,hD]
 simp only
 rw [wEP (by simp only [nD,nL];omega),hD]
 refine ⟨_,rfl,J0,by simp only;omega,by simp [hll],fun i hi=>?_⟩
 simp only
 by_cases c:i=k
 ·rw [c,show gd (l ++ [l']) k=l' by rw [<- hll,wGK]]
  exact J
 ·rw [wDc (by omega)]
  exact he i (by omega)
def ClkI (c:wAL) (o:Int):Prop:=-60 <= c.Offset.Lo/\c.Offset.Lo <= c.Offset.Hi/\c.Offset.Hi <= 70/\0 <= c.Error/\c.Error <= 5/\c.Offset.Lo <= o/\o <= c.Offset.Hi
def M4 (n:Int) (k:Nat) (s:List Int × Int × Int × List wAL × List Int):Prop:=0 <= s.2.1/\s.2.1 <= n + 4 * (k:Int)/\s.2.2.2.1.length=k/\s.2.2.2.2.length=k/\∀ i,i < k->ClkI (gd s.2.2.2.1 i) (gd s.2.2.2.2 i)
theorem wND {n:Int} (n0:0 <= n) (n1:n <= 1000) {k:Nat} (hk:k < 10) {s:List Int × Int × Int × List wAL × List Int} (I:M4 n k s):∃ s',m4B k s=some s'/\M4 n (k + 1) s':=by
 obtain ⟨b,nx,st,l,o⟩:=s
 obtain ⟨i0,i1,hl,ho,he⟩:=I
 simp only at i0 i1 hl ho he
 unfold m4B
 simp only
 obtain ⟨a,d1,e1,p0,p1,a0,a1⟩:=wFu ⟨b,nx,st⟩ (-60) 20 i0 (by simp only;omega) (by omega) (by omega) (by omega)
 simp only at p1
 obtain ⟨y,d2,e2,q0,q1,y0,y1⟩:=wES d1 50 p0 (by omega)
 obtain ⟨z,d3,e3,r0,r1,z0,z1⟩:=wES d2 6 q0 (by omega)
 obtain ⟨v,d4,e4,s0,s1,v0,v1⟩:=wFu d3 a (a + y) r0 (by omega) (by omega) (by omega) (by omega)
 rw [e1,hD]
 simp only
 rw [e2,hD]
 simp only
 rw [e3,hD]
 simp only
 rw [wAW (x:=a + y) (by omega) (by omega),wEP (by simp only [nD,nL];omega),hD,e4,hD]
 simp only
 rw [wEP (by simp only [nD,nL];omega),hD]
 refine ⟨_,rfl,s0,by simp only;omega,by simp [hl],by simp [ho],fun i hi=>?_⟩
 simp only
 by_cases c:i=k
 ·have h1:gd (l ++ [(⟨⟨a,a + y⟩,z⟩:wAL)]) i=⟨⟨a,a + y⟩,z⟩:=by rw [c,<- hl,wGK]
  have h2:gd (o ++ [v]) i=v:=by rw [c,<- ho,wGK]
  rw [h1,h2]
  unfold ClkI
  simp only
  omega
 ·rw [wDc (by omega),wDc (by omega)]
  exact he i (by omega)
def RdI (n m c:Nat) (T:List (List Int)) (C:List wAL) (O:List Int) (x:wAK):Prop :=
 (0 <= x.Skier/\x.Skier < n/\0 <= x.Mat/\x.Mat <= m/\0 <= x.Clock/\x.Clock < c)/\0 <= x.Time/\x.Time <= 100000/\-(gd C x.Clock.toNat).Error <= x.Time - gd (gd T x.Skier.toNat) x.Mat.toNat - gd O x.Clock.toNat/\x.Time - gd (gd T x.Skier.toNat) x.Mat.toNat - gd O x.Clock.toNat <= (gd C x.Clock.toNat).Error
def M5 (st:List Int) (sp:List wAI) (T:List (List Int)) (C:List wAL) (O:List Int) (n:Int) (k:Nat) (s:List Int × Int × Int × List wAK):Prop:=0 <= s.2.1/\s.2.1 <= n + 4 * (k:Int)/\s.2.2.2.length <= k/\∀ x ∈ s.2.2.2,RdI st.length sp.length C.length T C O x
theorem wNE {st:List Int} {sp:List wAI} {T:List (List Int)} {C:List wAL} {O:List Int} (h1:1 <= st.length) (h2:st.length <= 10) (h3:sp.length <= 9) (hT:T.length=st.length) (hR:∀ i,i < st.length->RowI sp (gd st i) sp.length (gd T i)) (c1:1 <= C.length) (c2:C.length <= 10) (hO:O.length=C.length) (hC:∀ i,i < C.length->ClkI (gd C i) (gd O i)) {n:Int} (n0:0 <= n) (n1:n <= 1000) {k:Nat} (hk:k < 50) {s:List Int × Int × Int × List wAK} (I:M5 st sp T C O n k s):∃ s',m5B st sp T C O k s=some s'/\M5 st sp T C O n (k + 1) s':=by
 obtain ⟨b,nx,se,l⟩:=s
 obtain ⟨i0,i1,hl,he⟩:=I
 simp only at i0 i1 hl he
 unfold m5B
 simp only
 obtain ⟨x,d1,e1,p0,p1,x0,x1⟩:=wES ⟨b,nx,se⟩ (st.length:Int) i0 (by simp only;omega)
 simp only at p1
 obtain ⟨y,d2,e2,q0,q1,y0,y1⟩:=wES d1 ((sp.length:Int) + 1) p0 (by omega)
 obtain ⟨z,d3,e3,r0,r1,z0,z1⟩:=wES d2 (C.length:Int) q0 (by omega)
 have hx:x.toNat < st.length:=by omega
 have hz:z.toNat < C.length:=by omega
 obtain ⟨K1,K2,K3,K4,K5,K6,K7⟩:=hC z.toNat hz
 have R:=hR x.toNat hx
 have hb:=R.b y.toNat (by omega)
 have hlen:=R.len
 obtain ⟨v,d4,e4,s0,s1,v0,v1⟩:=wFu d3 (-(gd C z.toNat).Error) (gd C z.toNat).Error r0 (by omega) (by omega) (by omega) (by omega)
 rw [e1,hD]
 simp only
 rw [wAW (x:=(sp.length:Int) + 1) (by omega) (by omega),e2,hD]
 simp only
 rw [e3,hD,hD]
 simp only
 rw [wCw (by omega) (by omega),hD,wER x0 (by omega),hD,wER y0 (by omega),hD,wCw (by omega) (by omega),hD,wAW (x:=-(gd C z.toNat).Error) (by omega) (by omega),show (⟨d3.bytes,d3.next,d3.state⟩:wAJ)=d3 from rfl,e4,hD]
 simp only
 rw [wAW (x:=gd (gd T x.toNat) y.toNat + gd O z.toNat) (by omega) (by omega),wAW (x:=gd (gd T x.toNat) y.toNat + gd O z.toNat + v) (by omega) (by omega),wAW (x:=max 0 (gd (gd T x.toNat) y.toNat + gd O z.toNat + v) - gd (gd T x.toNat) y.toNat) (by omega) (by omega),wAW (x:=_ - gd O z.toNat) (by omega) (by omega)]
 by_cases g1:-(gd C z.toNat).Error <= max 0 (gd (gd T x.toNat) y.toNat + gd O z.toNat + v) - gd (gd T x.toNat) y.toNat - gd O z.toNat
 ·rw [if_pos g1]
  by_cases g2:max 0 (gd (gd T x.toNat) y.toNat + gd O z.toNat + v) - gd (gd T x.toNat) y.toNat - gd O z.toNat <= (gd C z.toNat).Error
  ·rw [if_pos g2,wEP (by simp only [nD,nL];omega),hD]
   refine ⟨_,rfl,s0,by simp only;omega,by simp;omega,wIJ he ⟨?_,?_,?_,g1,g2⟩⟩
   ·simp only;omega
   ·simp only;omega
   ·simp only;omega
  ·rw [if_neg g2]
   exact ⟨_,rfl,s0,by simp only;omega,by simp only;omega,he⟩
 ·rw [if_neg g1]
  exact ⟨_,rfl,s0,by simp only;omega,by simp only;omega,he⟩
theorem wLP {d:wAJ} (h0:d.next=0) {u w q:Int} (u1:1 <= u) (u2:u <= 8) (w1:1 <= w) (w2:w <= 8) (q0:0 <= q) (q1:q <= 40):∃ r T O d',wCI d u w q=some (r,T,O,d')/\RC r/\Lens r T O/\wDe r (yT T O)/\(∀ x ∈ r.Starts,x <= 902)/\(∀ x ∈ r.Clocks,-60 <= x.Offset.Lo/\x.Offset.Hi <= 70)/\(∀ x ∈ r.Readings,x.Time <= 100000)/\(∀ x ∈ r.Splits,300 <= x.Lo/\x.Hi <= 1190)/\1 <= r.Clocks.length/\(∀ x ∈ r.Clocks,x.Error <= 5)/\(r.Readings.length:Int) <= q/\(r.Starts.length:Int) <= u:=by
 rw [wJO]
 obtain ⟨x,d1,e1,m0,m1,x0,x1⟩:=wFu d 1 u (by omega) (by omega) (by omega) (by omega) (by omega)
 obtain ⟨n,rfl⟩:∃ n:Nat,x=n:=⟨x.toNat,by omega⟩
 obtain ⟨⟨b2,nx2,st2,S⟩,e2,a0,a1,hS,eS⟩:=wED (n:=n) (body:=m1B) (s0:=(d1.bytes,d1.next,d1.state,[])) (M1 d1.next) (by omega) ⟨m0,by simp only;omega,rfl,by simp⟩ fun i s hi I=>wNA m0 (by omega) (by omega) I
 simp only at a0 a1 hS eS
 obtain ⟨y,d3,e3,b0,b1,y0,y1⟩:=wES ⟨b2,nx2,st2⟩ w a0 (by simp only;omega)
 simp only at b1
 obtain ⟨m,rfl⟩:∃ n:Nat,y=n:=⟨y.toNat,by omega⟩
 obtain ⟨⟨b4,nx4,st4,P⟩,e4,c0,c1,hP,eP⟩:=wED (n:=m) (body:=m2B) (s0:=(d3.bytes,d3.next,d3.state,[])) (M2 d3.next) (by omega) ⟨b0,by simp only;omega,rfl,by simp⟩ fun i s hi I=>wNB b0 (by omega) (by omega) I
 simp only at c0 c1 hP eP
 obtain ⟨⟨b5,nx5,st5,T⟩,e5,f0,f1,hT,eT⟩:=wED (n:=S.length) (body:=m3B S P) (s0:=(b4,nx4,st4,[])) (M3o S P nx4) (by omega) ⟨c0,by simp only;omega,rfl,fun i hi=>by omega⟩ fun i s hi I=>wMB eS (by omega) eP c0 (by omega) hi (by omega) I
 simp only at f0 f1 hT eT
 obtain ⟨z,d6,e6,g0,g1,z0,z1⟩:=wFu ⟨b5,nx5,st5⟩ 1 3 f0 (by simp only;omega) (by omega) (by omega) (by omega)
 simp only at g1
 obtain ⟨c,rfl⟩:∃ n:Nat,z=n:=⟨z.toNat,by omega⟩
 obtain ⟨⟨b7,nx7,st7,C,O⟩,e7,k0,k1,hC,hO,eC⟩:=wED (n:=c) (body:=m4B) (s0:=(d6.bytes,d6.next,d6.state,[],[])) (M4 d6.next) (by omega) ⟨g0,by simp only;omega,rfl,rfl,fun i hi=>by omega⟩ fun i s hi I=>wND g0 (by omega) (by omega) I
 simp only at k0 k1 hC hO eC
 obtain ⟨v,d8,e8,l0,l1,v0,v1⟩:=wES ⟨b7,nx7,st7⟩ (q + 1) k0 (by simp only;omega)
 simp only at l1
 obtain ⟨h,rfl⟩:∃ n:Nat,v=n:=⟨v.toNat,by omega⟩
 have hTl:T.length=S.length:=by omega
 obtain ⟨⟨b9,nx9,st9,R⟩,e9,_,_,hR,eR⟩:=wED (n:=h) (body:=m5B S P T C O) (s0:=(d8.bytes,d8.next,d8.state,[])) (M5 S P T C O d8.next) (by omega) ⟨l0,by simp only;omega,kT _,by simp⟩ fun i s hi I=>wNE (by omega) (by omega) (by omega) hTl (fun i hi=>eT i (by omega)) (by omega) (by omega) (by omega) (fun i hi=>eC i (by omega)) l0 (by omega) (by omega) I
 simp only at hR eR
 rw [e1,hD]
 simp only
 rw [e2,hD]
 simp only
 rw [e3,hD]
 simp only
 rw [e4,hD]
 simp only
 rw [e5,hD]
 simp only
 rw [e6,hD]
 simp only
 rw [e7,hD]
 simp only
 rw [wAW (x:=q + 1) (by omega) (by omega),e8,hD]
 simp only
 rw [e9,hD]
 have hck:∀ x ∈ C,∃ o,ClkI x o:=fun x hx=>by
  obtain ⟨i,hi,rfl⟩:=wIn hx
  exact ⟨_,eC i (by omega)⟩
 have RR:RC ⟨S,P,C,R⟩:=⟨⟨by simp only;omega,by simp only;omega⟩,by simp only;omega,by simp only;omega,by simp only;omega,(fun s hs=>by have:=eS s hs;omega),(fun s hs=>by have:=eP s hs;omega),(fun s hs=>by
  obtain ⟨o,h1,h2,h3,h4,h5,h6,h7⟩:=hck s hs
  exact ⟨⟨h2,by omega,by omega⟩,h4,by omega⟩),(fun x hx=>by have:=eR x hx;exact ⟨this.2.1,by have:=this.2.2.1;omega⟩),fun x hx=>(eR x hx).1⟩
 refine ⟨⟨S,P,C,R⟩,T,O,_,rfl,RR,⟨hTl,fun k hk=>(eT k hk).len,by simp only;omega⟩,(wJr RR).2 ⟨?_,?_,?_⟩,fun x hx=>(eS x hx).2,fun x hx=>?_,fun x hx=>(eR x hx).2.2.1,fun x hx=>⟨(eP x hx).1,(eP x hx).2.2⟩,by simp only;omega,fun x hx=>by
  obtain ⟨o,_,_,_,_,h5,_⟩:=hck x hx
  exact h5,by simp only;omega,by simp only;omega⟩
 ·rw [wCO]
  intro i _ hi
  have hi:i < S.length:=by simp only at hi;omega
  have Q:=eT i hi
  unfold wNW
  rw [nE,decide_eq_true_eq,wCO]
  refine ⟨Q.z,fun j _ hj=>?_⟩
  unfold inB
  rw [decide_eq_true_eq]
  exact Q.d j (by simp only at hj;omega)
 ·rw [wCO]
  intro i _ hi
  have Q:=eC i (by simp only at hi;omega)
  unfold wOD inB
  rw [decide_eq_true_eq]
  exact ⟨Q.2.2.2.2.2.1,Q.2.2.2.2.2.2⟩
 ·rw [wCO]
  intro i _ hi
  have Q:=eR _ (wAm (l:=R) (k:=i) (by simp only at hi;omega))
  unfold wOE inB
  rw [decide_eq_true_eq]
  exact ⟨Q.2.2.2.1,Q.2.2.2.2⟩
 ·obtain ⟨o,h1,h2,h3,_⟩:=hck x hx
  exact ⟨h1,h3⟩
end Go.Proofs.YtkghaiefcjgfkaaGreat
namespace Go.Proofs.YtkghaiefcjgfkaaGreat
open Go.KL Go.KL.Net
open Classical
theorem wOF {r:wAE} (S:wGh r) {a b:wAP} (c:wII r [a,b]=0) {f g:Pt->Int} (hf:IsDP r (pt a) f) (hg:IsDP r (pt b) g):wEC r a b=some (⟨-g (pt a),f (pt b)⟩,0):=by
 unfold wEC
 obtain ⟨o,e,h0,_⟩:=wJq S (l:=[a,b]) (by simp)
 obtain ⟨d,pts,rfl,D⟩:=h0 c
 obtain ⟨C,_,hs,hy⟩:=err0 c
 simp only [kI,kP,kJ,nE] at hs
 have ha:=(wGb (r:=r) (s:=a) hs.1).1
 have hb:=(wGb (r:=r) (s:=b) hs.2).1
 obtain ⟨f',l1,e1,n1,F'⟩:=D.from_ hy ha
 obtain ⟨g',l2,e2,n2,G'⟩:=D.from_ hy hb
 have f1:=F'.one hf hb
 have g1:=G'.one hg ha
 have gn:=hg.near C hb ha
 have pa:=D.pos_ok ha
 have pb:=D.pos_ok hb
 rw [e,hD]
 simp only
 rw [if_pos c]
 unfold wCK
 rw [hD,hD]
 show (wBh d (pt a) (pt b)).bind _=_
 unfold wBh
 rw [pa.2.2,pb.2.2,e1,hD]
 simp only
 rw [hD,e2,hD]
 simp only
 rw [hD]
 simp only
 rw [wCw (by omega) (by omega),hD,wCw (by omega) (by omega),hD,hJ,hJ,f1,g1,wAW (by omega) (by omega)]
 rfl
theorem wOG {r:wAE} (S:wGh r) (c:code r=0) (hy:∃ y,wDe r y) {a:Pt} (ha:wGO r a):∃ f,IsDP r a f:=by
 rcases wJp S with ⟨c0,_⟩ | ⟨_,d,pts,_,D⟩
 ·exact absurd c c0
 ·obtain ⟨f,l,_,_,F⟩:=D.from_ hy ha
  exact ⟨_,F⟩
end Go.Proofs.YtkghaiefcjgfkaaGreat
namespace Go.Proofs.YtkghaiefcjgfkaaGreat
open Go.KL Go.KL.Net
open Classical
def tt (r:wAE) (y:Pt->Int):List (List Int):=(nU r.Starts.length).map fun (s:Nat)=>(nU (r.Splits.length + 1)).map fun (k:Nat)=>y ⟨(s:Int),(k:Int)⟩ - y zp
def oo (r:wAE) (y:Pt->Int):List Int:=(nU r.Clocks.length).map fun (i:Nat)=>y zp - y ⟨-1,1 + (i:Int)⟩
theorem wGc {α:Type} [Inhabited α] {n k:Nat} (f:Nat->α) (h:k < n):gd ((nU n).map f) k=f k:=by
 rw [wCr (by simpa using h)]
 simp
theorem wKJ {r:wAE} {y:Pt->Int} {s k:Nat} (hs:s < r.Starts.length) (hk:k <= r.Splits.length):gd (gd (tt r y) s) k=y ⟨(s:Int),(k:Int)⟩ - y zp:=by
 unfold tt
 rw [wGc _ hs,wGc _ (by omega)]
theorem wIp (r:wAE) (y:Pt->Int):(tt r y).length=r.Starts.length:=by simp [tt]
theorem wGN {r:wAE} {y:Pt->Int} {s:Nat} (hs:s < r.Starts.length):(gd (tt r y) s).length=r.Splits.length + 1:=by
 unfold tt
 rw [wGc _ hs];simp
theorem wLQ {r:wAE} {d:wAh} {pts:List Pt} (D:Desk r d pts) {far:List Int} (hf:far.length=pts.length) {y:Pt->Int} (hy:∀ p,wGO r p->gd far (pos pts p)=y p) (F:wDe r y):wBx d far=some (tt r y,oo r y):=by
 have C:=D.c
 have hn:=C.n;have hm:=C.m;have hc:=C.c
 have hlen:=D.len
 have hz:wGO r zp:=.inl rfl
 have e0:gd far 0=y zp:=by rw [<- hy zp hz,D.zeroP]
 have get:∀ p,wGO r p->idx far (wAv d.number p 0)=some (y p):=fun p hp=>by
  obtain ⟨h1,_,h3⟩:=D.pos_ok hp
  rw [h3,wBI (by omega),hy p hp]
 have ez:idx far 0=some (y zp):=by rw [show (0:Int)=((0:Nat):Int) from rfl,wBI (by omega),e0]
 unfold wBx
 rw [ez,hD,D.race]
 have rows:wBg (0:Int) (↑r.Starts.length:Int) (fun k31 l26 =>
  (wBg (0:Int) (w64 ((↑r.Splits.length:Int) + 1)) (fun k74 l70 =>
   (idx far (wAv d.number (⟨(↑k31:Int),(↑k74:Int)⟩:wAH) 0)).bind fun x103 =>
   (app 8 l70 [w64 (x103 - y zp)]).bind fun x117 =>
   some x117) []).bind fun y79 =>
  (app 24 l26 [y79]).bind fun x161 =>
  some x161) []=some (tt r y):=by
  rw [wGJ (S:=List (List Int)) (n:=r.Starts.length) (fun k=>(tt r y).take k) (s0:=[]) (by simp) (by omega) fun k hk=>?_,<- wIp r y,nN]
  have hs1:w64 ((r.Splits.length:Int) + 1)=((r.Splits.length + 1:Nat):Int):=by rw [wAW (by omega) (by omega)];omega
  rw [hs1,wGJ (S:=List Int) (n:=r.Splits.length + 1) (fun j=>(gd (tt r y) k).take j) (s0:=[]) (by simp) (by omega) fun j hj=>?_]
  ·rw [hD,wEP (by rw [nI];simp only [nD,nL];omega),hD,wEk (l:=tt r y) (by rw [wIp];exact hk),<- wGN (y:=y) hk,nN]
  ·have hp:wGO r ⟨(k:Int),(j:Int)⟩:=.inr (.inl ⟨by simp only;omega,by simp only;omega,by simp only;omega,by simp only;omega⟩)
   have nr:=wHe C F hp
   rw [get _ hp,hD,wAW (by omega) (by omega),wEP (by rw [nI];simp only [nD,nL];omega),hD,wEk (l:=gd (tt r y) k) (by rw [wGN hk];exact hj),wKJ hk (by omega)]
 rw [rows,hD]
 have offs:wBg (0:Int) (↑r.Clocks.length:Int) (fun k215 l211 =>
  (wCF (↑k215:Int)).bind fun x243 =>
  (idx far (wAv d.number x243 0)).bind fun x253 =>
  (app 8 l211 [w64 (y zp - x253)]).bind fun x268 =>
  some x268) []=some (oo r y):=by
  have ol:(oo r y).length=r.Clocks.length:=by simp [oo]
  rw [wGJ (S:=List Int) (n:=r.Clocks.length) (fun k=>(oo r y).take k) (s0:=[]) (by simp) (by omega) fun k hk=>?_,<- ol,nN]
  have hp:wGO r ⟨-1,1 + (k:Int)⟩:=.inr (.inr ⟨rfl,by simp only;omega,by simp only;omega⟩)
  have nr:=wHe C F hp
  unfold wCF
  rw [wAW (by omega) (by omega),hD,get _ hp,hD,wAW (by omega) (by omega),wEP (by rw [nI];simp only [nD,nL];omega),hD,wEk (l:=oo r y) (by omega)]
  unfold oo
  rw [wGc _ hk]
 rw [offs]
 rfl
theorem wLR {r:wAE} (C:RC r) {y:Pt->Int} (F:wDe r y):wDe r (yT (tt r y) (oo r y))/\Lens r (tt r y) (oo r y)/\wLY (smlR (tt r y)) (tt r y).length 0=true/\wLY (smlO (oo r y)) (oo r y).length 0=true:=by
 have hz:wGO r zp:=.inl rfl
 have same:∀ p,wGO r p->yT (tt r y) (oo r y) p=y p - y zp:=fun p hp=>by
  rcases hp with rfl | ⟨a,b,c,d⟩ | ⟨a,b,c⟩
  ·rw [wLN];omega
  ·have e:p=⟨p.skier,p.mat⟩:=rfl
   rw [e,wFE _ _ a,wKJ (by omega) (by omega),nG a,nG c]
  ·have e:p=⟨-1,1 + (p.mat - 1)⟩:=by rw [<- a,nh,nS]
   rw [e,wGM _ _ (by omega)]
   unfold oo
   rw [wGc _ (by omega),nG (by omega)]
   omega
 have L:Lens r (tt r y) (oo r y):=⟨wIp r y,fun k hk=>wGN hk,by simp [oo]⟩
 refine ⟨fun x hx=>?_,L,?_,?_⟩
 ·obtain ⟨o1,o2,_,_⟩:=wFt C hx
  rw [same _ o1,same _ o2]
  have:=F x hx
  omega
 ·rw [wCO]
  intro i _ hi
  unfold smlR
  rw [wCO]
  intro j _ hj
  rw [L.t] at hi
  rw [wGN (by omega)] at hj
  have hp:wGO r ⟨(i:Int),(j:Int)⟩:=.inr (.inl ⟨by simp only;omega,by simp only;omega,by simp only;omega,by simp only;omega⟩)
  have:=wHe C F hp
  rw [wKJ (by omega) (by omega)]
  unfold inB
  rw [decide_eq_true_eq]
  omega
 ·rw [wCO]
  intro i _ hi
  rw [L.o] at hi
  have hp:wGO r ⟨-1,1 + (i:Int)⟩:=.inr (.inr ⟨rfl,by simp only;omega,by simp only;omega⟩)
  have:=wHe C F hp
  unfold smlO oo
  rw [wGc _ (by omega)]
  unfold inB
  rw [decide_eq_true_eq]
  omega
end Go.Proofs.YtkghaiefcjgfkaaGreat
namespace Go.Proofs.YtkghaiefcjgfkaaGreat
open Go.KL Go.KL.Net
open Classical
theorem wMC {r:wAE} (S:wGh r) (a b:wAP) (most:Bool):(wII r [a,b] ≠ 0->wDS r a b most=some ([],[],wII r [a,b]))/\(wII r [a,b]=0->∃ y,IsDP r (pt (if most=true then a else b)) y/\wDS r a b most=some (tt r y,oo r y,0)):=by
 unfold wDS
 obtain ⟨o,e,h0,h1⟩:=wJq S (l:=[a,b]) (by simp)
 rw [e,hD]
 simp only
 constructor
 ·intro c
  have ho:=h1 c
  subst ho
  simp only
  rw [if_neg c]
 ·intro c
  obtain ⟨d,pts,rfl,D⟩:=h0 c
  obtain ⟨C,_,hs,hy⟩:=err0 c
  simp only [kI,kP,kJ,nE] at hs
  have hp:=(wGb (r:=r) (s:=a) hs.1).1
  have hq:=(wGb (r:=r) (s:=b) hs.2).1
  simp only
  rw [if_pos c]
  cases most with
  | true =>
   obtain ⟨f,last,e1,fl,I⟩:=D.from_ hy hp
   obtain ⟨f1,f2⟩:=f
   refine ⟨_,I,?_⟩
   rw [if_pos rfl]
   unfold wCK
   rw [hD,show wAv d.number (⟨a.Skier,a.Mat⟩:wAH) 0=(pos pts (pt a):Int) from (D.pos_ok hp).2.2,e1,hD]
   simp only
   rw [hD]
   simp only
   rw [wLQ D fl (y:=fun p=>gd f1 (pos pts p)) (fun _ _=>rfl) I.ok,hD]
  | false =>
   obtain ⟨f,last,e1,fl,I⟩:=D.from_ hy hq
   obtain ⟨f1,f2⟩:=f
   refine ⟨_,I,?_⟩
   rw [if_neg (by simp)]
   unfold wCK
   rw [hD,show wAv d.number (⟨b.Skier,b.Mat⟩:wAH) 0=(pos pts (pt b):Int) from (D.pos_ok hq).2.2,e1,hD]
   simp only
   rw [hD]
   simp only
   rw [wLQ D fl (y:=fun p=>gd f1 (pos pts p)) (fun _ _=>rfl) I.ok,hD]
end Go.Proofs.YtkghaiefcjgfkaaGreat
namespace Go.Proofs.YtkghaiefcjgfkaaGreat
open Go.KL Go.KL.Net
open Classical
theorem wMD {r:wAE} (C:RC r) {T:List (List Int)} {O:List Int} (L:Lens r T O) (F:wDe r (yT T O)) (bT:∀ i j,i < r.Starts.length->j < r.Splits.length + 1->-100000000 <= gd (gd T i) j/\gd (gd T i) j <= 100000000) (bO:∀ i,i < r.Clocks.length->-100000000 <= gd O i/\gd O i <= 100000000):wBi r T O=some true:=by
 obtain ⟨h1,h2,h3⟩:=(wJr C).1 F
 have hn:=C.n;have hm:=C.m;have hc:=C.c;have hq:=C.q
 have lt:=L.t;have lo:=L.o
 unfold wBi
 rw [if_pos (by omega),if_pos (by omega),wDu (by omega) fun i hi=>?_,wEu,wDu (by omega) fun i hi=>?_,wEu,wDu (by omega) fun i hi=>?_,wEu]
 ·have u:=C.ru _ (wAm hi)
  have ut:=C.rt _ (wAm hi)
  have uc:=C.ck _ (wCs u.2.2.2.2.1 u.2.2.2.2.2)
  have a1:=bT (gd r.Readings i).Skier.toNat (gd r.Readings i).Mat.toNat (by omega) (by omega)
  have a2:=bO (gd r.Readings i).Clock.toNat (by omega)
  have ll:=L.l (gd r.Readings i).Skier.toNat (by omega)
  have g:=(wCO _ _ _).1 h3 i (by omega) (by omega)
  unfold wOE inB at g
  rw [decide_eq_true_eq] at g
  rw [wBI hi,hD,wER u.1 (by omega),hD,wER u.2.2.1 (by omega),hD,wER u.2.2.2.2.1 (by omega),hD,wER u.2.2.2.2.1 (by omega),hD,wAW (x:=(gd r.Readings i).Time - gd (gd T (gd r.Readings i).Skier.toNat) (gd r.Readings i).Mat.toNat) (by omega) (by omega),wAW (x:=_ - gd O (gd r.Readings i).Clock.toNat) (by omega) (by omega),if_neg (by omega),wAW (by omega) (by omega),if_neg (by omega)]
 ·have g:=(wCO _ _ _).1 h2 i (by omega) (by omega)
  unfold wOD inB at g
  rw [decide_eq_true_eq] at g
  rw [wBI hi,hD,wBI (by omega),hD,if_neg (by omega),if_neg (by omega)]
 ·have hi':i < T.length:=by omega
  have ll:=L.l i (by omega)
  have g:=(wCO _ _ _).1 h1 i (by omega) (by omega)
  unfold wNW at g
  rw [nE,decide_eq_true_eq] at g
  rw [wBI hi',hD,wAW (by omega) (by omega),if_pos (by omega),show (0:Int)=((0:Nat):Int) from rfl,wBI (by omega),hD,wBI (by omega),hD,if_pos g.1,show ((0:Nat):Int)=0 from rfl,wDu (by omega) fun j hj=>?_]
  ·rfl
  ·have q:=(wCO _ _ _).1 g.2 j (by omega) (by omega)
   unfold inB at q
   rw [decide_eq_true_eq] at q
   have sp:=C.sp _ (wAm hj)
   have a1:=bT i (j + 1) (by omega) (by omega)
   have a2:=bT i j (by omega) (by omega)
   rw [wBI hj,hD,wBI (by omega),hD,wBI (by omega),hD,if_neg (by omega),wAW (by omega) (by omega),if_neg (by omega),if_neg (by omega)]
end Go.Proofs.YtkghaiefcjgfkaaGreat
namespace Go.Proofs.YtkghaiefcjgfkaaGreat
open Go.KL Go.KL.Net
open Classical
theorem wNF {r:wAE} (C:RC r) {y:Pt->Int} (F:wDe r y):wBi r (tt r y) (oo r y)=some true:=by
 obtain ⟨t1,t2,t3,t4⟩:=wLR C F
 have tl:=wIp r y
 refine wMD C t2 t1 (fun a b ha hb=>?_) (fun a ha=>?_)
 ·have g1:=(wCO _ _ _).1 t3 a (by omega) (by omega)
  have g2:=(wCO _ _ _).1 g1 b (by omega) (by rw [wGN ha];omega)
  unfold inB at g2
  rw [decide_eq_true_eq] at g2
  exact g2
 ·have g1:=(wCO _ _ _).1 t4 a (by omega) (by rw [t2.o];omega)
  unfold smlO inB at g1
  rw [decide_eq_true_eq] at g1
  exact g1
end Go.Proofs.YtkghaiefcjgfkaaGreat
namespace Go.Proofs.YtkghaiefcjgfkaaGreat
open Go.KL
theorem wME (v:Int) {n:Int} (h1:1 <= n) (h2:n <= 100000):∃ x,wCX v n=some x/\0 <= x/\x < n:=by
 unfold wCX
 rw [if_neg (by omega),rem,if_neg (by omega),hD]
 have a1:=Int.lt_tmod_of_pos v (show 0 < n by omega)
 have a2:=kQ v (show 0 < n by omega)
 rw [wAW (by omega) (by omega)]
 have b1:=Int.tmod_nonneg n (a:=v.tmod n + n) (by omega)
 have b2:=kQ (v.tmod n + n) (show 0 < n by omega)
 rw [rem,if_neg (by omega)]
 exact ⟨_,rfl,b1,b2⟩
end Go.Proofs.YtkghaiefcjgfkaaGreat
namespace Go.Proofs.YtkghaiefcjgfkaaGreat
open Go.KL
def cn (l:List Int) (t:Int):Nat:=l.countP fun x=>decide (x <= t)
theorem wKK (l:List Int) (t:Int):cn l t <= l.length:=List.countP_le_length
theorem wLS (l:List Int) {s t:Int} (h:s <= t):cn l s <= cn l t:=List.countP_mono_left fun x _ hx=>by simp at hx ⊢;omega
theorem wJP:∀ {l:List Int} {t:Int} {k:Nat},l.Pairwise (· < ·)->k < l.length->(k < cn l t ↔ gd l k <= t)
 | [],t,k,_,hk=>by simp at hk
 | a :: l,t,0,h,_=>by
  show 0 < cn (a :: l) t ↔ a <= t
  unfold cn
  rw [List.countP_cons]
  by_cases c:a <= t
  ·simp [c]
  ·simp only [c,decide_false,nP,if_false,Nat.add_zero,iff_false]
   have:l.countP (fun x=>decide (x <= t))=0:=ni.2 fun x hx=>by
    have:=(nk.1 h).1 x hx
    simp;omega
   omega
 | a :: l,t,k + 1,h,hk=>by
  show k + 1 < cn (a :: l) t ↔ gd l k <= t
  have hk':k < l.length:=by simpa using hk
  have ih:=wJP (t:=t) (nk.1 h).2 hk'
  rw [<- ih]
  unfold cn
  rw [List.countP_cons]
  by_cases c:a <= t
  ·simp [c]
  ·have h1:l.countP (fun x=>decide (x <= t))=0:=ni.2 fun x hx=>by
    have:=(nk.1 h).1 x hx
    simp;omega
   simp [c,h1]
theorem wOH {l:List Int} (h:l.Pairwise (· < ·)) {k:Nat} (hk:k < l.length):cn l (gd l k)=k + 1:=by
 have h1:=(wJP (t:=gd l k) h hk).2 (nO _)
 have h2:=wKK l (gd l k)
 by_cases e:k + 1=l.length
 ·omega
 ·have h3:=mt (wJP (t:=gd l k) (k:=k + 1) h (by omega)).1
  have h4:gd l k < gd l (k + 1):=by
   have:=nB.1 h k (k + 1) hk (by omega) (by omega)
   rwa [<- wCr hk,<- wCr (by omega)] at this
  have:=h3 (by omega)
  omega
theorem wOI {l:List Int} (h:l.Pairwise (· < ·)) {t:Int} (ht:t ∈ l):0 < cn l t/\cn l t <= l.length/\gd l (cn l t - 1)=t:=by
 obtain ⟨k,hk,e⟩:=nJ ht
 have e':gd l k=t:=by rw [wCr hk,e]
 have:=wOH h hk
 rw [e'] at this
 refine ⟨by omega,wKK _ _,?_⟩
 rw [this];exact e'
theorem wNG {l:List Int} (h:l.Pairwise (· < ·)) {s t:Int} (hst:s < t) (hno:∀ x ∈ l,s < x->t <= x) :
  cn l t=if cn l s < l.length/\gd l (cn l s)=t then cn l s + 1 else cn l s:=by
 have h0:=wKK l s
 have hm:=wLS l (show s <= t by omega)
 by_cases hl:cn l s < l.length
 ·have h1:s < gd l (cn l s):=by
   have:=mt (wJP (t:=s) h hl).2 (by omega)
   omega
  have h2:=hno _ (wAm hl) h1
  by_cases e:gd l (cn l s)=t
  ·rw [if_pos ⟨hl,e⟩]
   have:=wOH h hl
   rw [e] at this
   exact this
  ·rw [if_neg (fun c=>e c.2)]
   have:=mt (wJP (t:=t) h hl).1 (by omega)
   omega
 ·rw [if_neg (fun c=>hl c.1)]
  have:=wKK l t
  omega
def Lp (p:wAN) (d time:Int) (j:Nat):Prop:=j < p.done.length/\gd p.out j=false/\d + 2 <= gd p.done j/\gd (gd p.Race.Times j) ((gd p.done j) - 1).toNat=time
structure wIq (p:wAN):Prop where
 n:p.done.length <= 60
 o:p.out.length=p.done.length
 b:p.Race.Bibs.length=p.done.length
 t:p.Race.Times.length=p.done.length
 d0:∀ i,i < p.done.length->0 <= gd p.done i/\gd p.done i <= (gd p.Race.Times i).length
 len:∀ l ∈ p.Race.Times,l.length <= 1000
def ByP (p:wAN) (d time:Int) (n:Nat) (x:Int):Prop :=
 (x=-1/\∀ j,j < n->¬ Lp p d time j) \/ ∃ j:Nat,x=j/\j < n/\Lp p d time j/\∀ i,i < n->Lp p d time i->gd p.Race.Bibs j <= gd p.Race.Bibs i
theorem wEE {S:Type} {body:Nat->S->Option S} {n:Nat} {s0:S} (I:Nat->S->Prop) (hn:n <= 1000) (h0:I 0 s0) (h:∀ i s,i < n->I i s->∃ s',body i s=some s'/\I (i + 1) s'):∃ s,wBg 0 (n:Int) body s0=some s/\I n s:=by
 rw [wEr (by omega)]
 have:=wFW (body:=body) I n 0 s0 h0 fun i s _ h2 h3=>h i s (by omega) h3
 rwa [nc] at this
theorem wOJ {p:wAN} (G:wIq p) (i d time:Int) (hd0:0 <= d) (hd1:d <= 1000):∃ x,wBF p i d time=some x/\ByP p d time p.done.length x:=by
 unfold wBF
 have hn:=G.n
 obtain ⟨x,e,hx⟩:=wEE (body:=fun (k10:Nat) (x9:Int) =>
  ((idx p.done (↑k10:Int)).bind fun x35 =>
  (idx p.out (↑k10:Int)).bind fun x46 =>
  if x46=true then
   some x9
  else
   if (w64 (d + 2)) <= x35 then
    (idx p.Race.Times (↑k10:Int)).bind fun x60 =>
    (idx x60 (w64 (x35 - 1))).bind fun x73 =>
    if x73=time then
     if x9 < 0 then
      some (↑k10:Int)
     else
      (idx p.Race.Bibs (↑k10:Int)).bind fun x92 =>
      (idx p.Race.Bibs x9).bind fun x100 =>
      if x92 < x100 then
       some (↑k10:Int)
      else
       some x9
    else
     some x9
   else
    some x9).bind fun x34 =>
  some x34) (n:=p.done.length) (s0:=(-1:Int)) (fun k x=>ByP p d time k x) (by omega) (.inl ⟨rfl,fun j hj=>by omega⟩) (fun k x hk hx=>by
   have hd:=G.d0 k hk
   have ho:=G.o
   have hb:=G.b
   have ht:=G.t
   have hll:=G.len _ (wAm (l:=p.Race.Times) (k:=k) (by omega))
   simp only [wMs]
   rw [wBI hk,hD,wBI (by omega),hD,wAW (by omega) (by omega)]
   have skip:¬ Lp p d time k->ByP p d time (k + 1) x:=fun hno=>by
    rcases hx with ⟨h1,h2⟩ | ⟨j,h1,h2,h3,h4⟩
    ·exact .inl ⟨h1,fun j hj=>by
      by_cases e:j=k
      ·exact e ▸ hno
      ·exact h2 j (by omega)⟩
    ·exact .inr ⟨j,h1,by omega,h3,fun i hi hL=>by
      by_cases e:i=k
      ·exact absurd (e ▸ hL) hno
      ·exact h4 i (by omega) hL⟩
   by_cases c1:gd p.out k=true
   ·rw [if_pos c1]
    exact ⟨x,rfl,skip fun h=>by have:=h.2.1;rw [c1] at this;exact nf this⟩
   rw [if_neg c1]
   by_cases c2:d + 2 <= gd p.done k
   ·have e1:(gd p.done k) - 1=((((gd p.done k) - 1).toNat:Nat):Int):=by omega
    rw [if_pos c2,wBI (by omega),hD,wAW (by omega) (by omega),e1,wBI (by omega),hD]
    by_cases c3:gd (gd p.Race.Times k) ((gd p.done k) - 1).toNat=time
    ·have hL:Lp p d time k:=⟨hk,by simpa using c1,c2,c3⟩
     rw [if_pos c3]
     rcases hx with ⟨h1,h2⟩ | ⟨j,h1,h2,h3,h4⟩
     ·rw [if_pos (by omega)]
      exact ⟨_,rfl,.inr ⟨k,rfl,by omega,hL,fun i hi hL'=>by
       by_cases e:i=k
       ·subst e;exact nO _
       ·exact absurd hL' (h2 i (by omega))⟩⟩
     ·subst h1
      rw [if_neg (by omega),wBI (by omega),hD,wBI (by omega),hD]
      by_cases c4:gd p.Race.Bibs k < gd p.Race.Bibs j
      ·rw [if_pos c4]
       exact ⟨_,rfl,.inr ⟨k,rfl,by omega,hL,fun i hi hL'=>by
        by_cases e:i=k
        ·subst e;exact nO _
        ·have:=h4 i (by omega) hL'
         omega⟩⟩
      ·rw [if_neg c4]
       exact ⟨_,rfl,.inr ⟨j,rfl,by omega,h3,fun i hi hL'=>by
        by_cases e:i=k
        ·subst e;omega
        ·exact h4 i (by omega) hL'⟩⟩
    ·rw [if_neg c3]
     exact ⟨x,rfl,skip fun h=>c3 h.2.2.2⟩
   ·rw [if_neg c2]
    exact ⟨x,rfl,skip fun h=>c2 h.2.2.1⟩)
 rw [e,hD]
 exact ⟨x,rfl,hx⟩
end Go.Proofs.YtkghaiefcjgfkaaGreat
namespace Go.Proofs.YtkghaiefcjgfkaaGreat
open Go.KL
def nx (p:wAN) (t:Int) (i:Nat):Int:=if gd p.out i=false/\gd p.done i < (gd p.Race.Times i).length/\gd (gd p.Race.Times i) (gd p.done i).toNat=t then gd p.done i + 1 else gd p.done i
def st1 (p0:wAN) (p1:Int):Nat->List Int->Option (List Int):=fun k10 l9 =>
  (idx p0.Race.Times (↑k10:Int)).bind fun x33 =>
  (chk (↑k10:Int) l9.length).bind fun _ =>
  (chk (↑k10:Int) p0.out.length).bind fun _ =>
  if (gd p0.out k10)=true then
   some l9
  else
   if (gd l9 k10) < (↑x33.length:Int) then
    (idx x33 (gd l9 k10)).bind fun x62 =>
    if x62=p1 then
     some (nM l9 k10 (w64 ((gd l9 k10) + 1)))
    else
     some l9
   else
    some l9
def st2 (p0:wAN) (p1:Int) (y15:List Int):Nat->List Int->Option (List Int):=fun k121 l117 =>
  (chk (↑k121:Int) y15.length).bind fun _ =>
  (chk (↑k121:Int) p0.out.length).bind fun _ =>
  if (gd p0.out k121)=true then
   some l117
  else
   (wBF (⟨p0.Race,y15,p0.out⟩:wAN) (↑k121:Int) (gd y15 k121) p1).bind fun x193 =>
   if 0 <= x193 then
    (app 8 l117 [(↑k121:Int)]).bind fun x222 =>
    some x222
   else
    some l117
theorem wJQ (p0:wAN) (p1:Int):wBG p0 p1=(wBg 0 (↑p0.Race.Times.length:Int) (st1 p0 p1) p0.done).bind fun y =>
 (wBg 0 (↑y.length:Int) (st2 p0 p1 y) []).bind fun z=>some (z,(⟨p0.Race,y,p0.out⟩:wAN)):=rfl
theorem wOK {p:wAN} (G:wIq p) (t:Int):∃ y,wBg 0 (↑p.Race.Times.length:Int) (st1 p t) p.done=some y/\y.length=p.done.length/\∀ i,i < p.done.length->gd y i=nx p t i:=by
 have hn:=G.n
 have ho:=G.o
 have ht:=G.t
 obtain ⟨y,e,h1,h2⟩:=wEE (body:=st1 p t) (n:=p.Race.Times.length) (s0:=p.done) (fun k y=>y.length=p.done.length/\∀ i,i < p.done.length->gd y i=if i < k then nx p t i else gd p.done i) (by omega) ⟨rfl,fun i _=>by rw [if_neg (by omega)]⟩ (fun k y hk ⟨h1,h2⟩=>by
  have hk':k < p.done.length:=by omega
  have hd:=G.d0 k hk'
  have hll:=G.len _ (wAm (l:=p.Race.Times) (k:=k) hk)
  have hyk:gd y k=gd p.done k:=by rw [h2 k hk',if_neg (by omega)]
  have keep:nx p t k=gd p.done k->∀ i,i < p.done.length->gd y i=if i < k + 1 then nx p t i else gd p.done i:=fun e i hi=>by
   rw [h2 i hi]
   by_cases c:i=k
   ·subst c
    rw [if_neg (by omega),if_pos (by omega),e]
   ·by_cases c2:i < k
    ·rw [if_pos c2,if_pos (by omega)]
    ·rw [if_neg c2,if_neg (by omega)]
  unfold st1
  rw [wBI hk,hD,wCw (by omega) (by omega),hD,wCw (by omega) (by omega),hD,hyk]
  by_cases c1:gd p.out k=true
  ·rw [if_pos c1]
   exact ⟨y,rfl,h1,keep (if_neg (fun h=>by rw [c1] at h;exact nf h.1))⟩
  have c1':gd p.out k=false:=by simpa using c1
  rw [if_neg c1]
  by_cases c2:gd p.done k < ((gd p.Race.Times k).length:Int)
  ·have e1:idx (gd p.Race.Times k) (gd p.done k)=some (gd (gd p.Race.Times k) (gd p.done k).toNat):=by
    unfold idx
    rw [if_pos hd.1,wBb (by omega)]
   rw [if_pos c2,e1,hD]
   by_cases c3:gd (gd p.Race.Times k) (gd p.done k).toNat=t
   ·have en:nx p t k=gd p.done k + 1:=if_pos ⟨c1',c2,c3⟩
    rw [if_pos c3,wAW (by omega) (by omega)]
    refine ⟨_,rfl,by simpa using h1,fun i hi=>?_⟩
    rw [wJi (by omega) (by omega)]
    by_cases c:i=k
    ·subst c
     rw [if_pos rfl,if_pos (by omega),en]
    ·rw [if_neg c,h2 i hi]
     by_cases c4:i < k
     ·rw [if_pos c4,if_pos (by omega)]
     ·rw [if_neg c4,if_neg (by omega)]
   ·rw [if_neg c3]
    exact ⟨y,rfl,h1,keep (if_neg (fun h=>c3 h.2.2))⟩
  ·rw [if_neg c2]
   exact ⟨y,rfl,h1,keep (if_neg (fun h=>c2 h.2.1))⟩)
 exact ⟨y,e,h1,fun i hi=>by rw [h2 i hi,if_pos (by omega)]⟩
theorem nx_le {p:wAN} (G:wIq p) (t:Int) {i:Nat} (hi:i < p.done.length):0 <= nx p t i/\nx p t i <= (gd p.Race.Times i).length:=by
 have:=G.d0 i hi
 unfold nx
 split <;> omega
theorem wNH {p:wAN} (G:wIq p) (t:Int):∃ z y,wBG p t=some (z,(⟨p.Race,y,p.out⟩:wAN))/\y.length=p.done.length/\(∀ i,i < p.done.length->gd y i=nx p t i)/\wIq (⟨p.Race,y,p.out⟩:wAN) /\
  z.Pairwise (· < ·)/\∀ x,x ∈ z ↔ ∃ i:Nat,x=i/\i < p.done.length/\gd p.out i=false/\∃ j,Lp (⟨p.Race,y,p.out⟩:wAN) (gd y i) t j:=by
 rw [wJQ]
 have hn:=G.n
 obtain ⟨y,e,h1,h2⟩:=wOK G t
 rw [e,hD]
 have G':wIq (⟨p.Race,y,p.out⟩:wAN):=⟨by show y.length <= 60;omega,by show p.out.length=y.length;rw [h1];exact G.o,by show p.Race.Bibs.length=y.length;rw [h1];exact G.b,by show p.Race.Times.length=y.length;rw [h1];exact G.t,fun i hi=>by
  have hi':i < p.done.length:=by rw [<- h1];exact hi
  show 0 <= gd y i/\gd y i <= _
  rw [h2 i hi']
  exact nx_le G t hi',G.len⟩
 obtain ⟨z,ez,z1,z2⟩:=wEE (body:=st2 p t y) (n:=y.length) (s0:=[]) (fun k z=>z.Pairwise (· < ·)/\∀ x,x ∈ z ↔ ∃ i:Nat,x=i/\i < k/\gd p.out i=false/\∃ j,Lp (⟨p.Race,y,p.out⟩:wAN) (gd y i) t j) (by omega) ⟨List.Pairwise.nil,fun x=>by simp⟩ (fun k z hk ⟨z1,z2⟩=>by
  have hk':k < p.done.length:=by omega
  have ho:=G.o
  have hyk:=G'.d0 k hk
  have hll:=G.len _ (wAm (l:=p.Race.Times) (k:=k) (by have:=G.t;omega))
  have hzl:z.length <= k:=by
   have hsub:∀ x ∈ z,0 <= x/\x < k:=fun x hx=>by
    obtain ⟨i,rfl,hi,_⟩:=(z2 x).1 hx
    omega
   rcases kR k z.length with c | c
   ·exfalso
    have key:∀ (m:Nat),m < z.length->(m:Int) <= gd z m:=by
     intro m
     induction m with
     | zero=>intro hm;exact (hsub _ (wAm hm)).1
     | succ m ih =>
      intro hm
      have h3:=ih (by omega)
      have h4:=nB.1 z1 m (m + 1) (by omega) hm (by omega)
      rw [<- wCr (by omega),<- wCr hm] at h4
      omega
    have h5:=key k c
    have h6:=(hsub _ (wAm c)).2
    omega
   ·exact c
  have skip:¬ (gd p.out k=false/\∃ j,Lp (⟨p.Race,y,p.out⟩:wAN) (gd y k) t j)->∀ x,x ∈ z ↔ ∃ i:Nat,x=i/\i < k + 1/\gd p.out i=false/\∃ j,Lp (⟨p.Race,y,p.out⟩:wAN) (gd y i) t j:=fun hno x=>by
   rw [z2]
   constructor
   ·rintro ⟨i,h1,h2,h3⟩
    exact ⟨i,h1,by omega,h3⟩
   ·rintro ⟨i,h1,h2,h3⟩
    by_cases c:i=k
    ·exact absurd (c ▸ h3) hno
    ·exact ⟨i,h1,by omega,h3⟩
  unfold st2
  rw [wCw (by omega) (by omega),hD,wCw (by omega) (by omega),hD]
  by_cases c1:gd p.out k=true
  ·rw [if_pos c1]
   exact ⟨z,rfl,z1,skip (fun h=>by have:=h.1;rw [c1] at this;exact nf this)⟩
  have c1':gd p.out k=false:=by simpa using c1
  obtain ⟨x,ex,hx⟩:=wOJ G' (k:Int) (gd y k) t hyk.1 (by
   have:=hyk.2
   simp only at this
   omega)
  rw [if_neg c1,ex,hD]
  rcases hx with ⟨h3,h4⟩ | ⟨j,h3,h4,h5,_⟩
  ·rw [if_neg (by omega)]
   exact ⟨z,rfl,z1,skip (fun h=>by obtain ⟨_,j,hj⟩:=h;exact h4 j hj.1 hj)⟩
  ·rw [if_pos (by omega),wEP (by simp;omega),hD]
   refine ⟨_,rfl,?_,fun x=>?_⟩
   ·rw [kH]
    refine ⟨z1,kB _ _,fun a ha b hb=>?_⟩
    obtain ⟨i,rfl,hi,_⟩:=(z2 a).1 ha
    have:=nA.1 hb
    omega
   ·rw [nH,z2,nA]
    constructor
    ·rintro (⟨i,h1,h2,h3⟩ | h)
     ·exact ⟨i,h1,by omega,h3⟩
     ·exact ⟨k,h,by omega,c1',j,h5⟩
    ·rintro ⟨i,h1,h2,h3⟩
     by_cases c:i=k
     ·exact .inr (by rw [h1,c])
     ·exact .inl ⟨i,h1,by omega,h3⟩)
 rw [ez,hD]
 refine ⟨z,y,rfl,h1,h2,G',z1,fun x=>?_⟩
 rw [z2,h1]
end Go.Proofs.YtkghaiefcjgfkaaGreat
namespace Go.Proofs.YtkghaiefcjgfkaaGreat
open Go.KL
def rA (p:wAN) (z:List Int) (t:Int) (k1191:Nat) (l1188:List wAO):Option (List wAO) :=
      (chk (↑k1191:Int) z.length).bind fun _ =>
      (idx p.Race.Bibs (gd z k1191)).bind fun x1222 =>
      (chk (gd z k1191) p.done.length).bind fun _ =>
      (wBF p (gd z k1191) (gd p.done (gd z k1191).toNat) t).bind fun x1264 =>
      (idx p.Race.Bibs x1264).bind fun x1286 =>
      (app 32 l1188 [(⟨x1222,(gd p.done (gd z k1191).toNat),t,x1286⟩:wAO)]).bind fun x1299 =>
      some x1299
def rO (z:List Int) (k1338:Nat) (l1337:List Bool):Option (List Bool) :=
      (chk (↑k1338:Int) z.length).bind fun _ =>
      (chk (gd z k1338) l1337.length).bind fun _ =>
      some (nM l1337 (gd z k1338).toNat true)
abbrev RS:=(List wAO) × Int × (List Int) × (List (List Int)) × (List Int) × (List Bool)
def rB:RS->Int->Option (RS ⊕ Empty)
 | (l1081,x1085,l1086,l1089,l1092,l1095),x1124 =>
  (wBG (⟨(⟨x1085,l1086,l1089⟩:wAT),l1092,l1095⟩:wAN) x1124).bind fun (x1150,x1151) =>
  (wBg 0 (↑x1150.length:Int) (rA x1151 x1150 x1124) l1081).bind fun y1196 =>
  (wBg 0 (↑x1150.length:Int) (rO x1150) x1151.out).bind fun y1343 =>
  some (.inl (y1196,x1151.Race.Laps,x1151.Race.Bibs,x1151.Race.Times,x1151.done,y1343))
theorem wKL (p0:wAT):wDi p0=((mkz 8 (↑p0.Bibs.length:Int) (0:Int)).bind fun x18 =>
 (mkz 1 (↑p0.Bibs.length:Int) false).bind fun x26 =>
 some (x18,x26)).bind fun (l9,l12) =>
 (wBw p0).bind fun x520 =>
 (wAz (S:=RS) (E:=Empty) rB ([],p0.Laps,p0.Bibs,p0.Times,l9,l12) x520).bind fun rr1118 =>
 match rr1118 with
 | .inl (y1416,y1417,y1418,y1419,y1420,y1421) =>
  (wAs y1416 (fun x=>wBD x.1 x.2)).bind fun x1438 =>
  some ((⟨(⟨y1417,y1418,y1419⟩:wAT),y1420,y1421⟩:wAN),x1438)
 | .inr e1432 =>
  e1432.elim:=rfl
theorem wLT {S:Type} {f:S->Int->Option (S ⊕ Empty)} {L:List Int} (I:Nat->S->Prop) {s0:S} (hL:L.length <= 1000000) (h0:I 0 s0) (h:∀ k s,k < L.length->I k s->∃ s',f s (gd L k)=some (.inl s')/\I (k + 1) s'):∃ s',wAz f s0 L=some (.inl s')/\I L.length s':=by
 unfold wAz
 rw [wDb (by omega)]
 have key:∀ body:Nat->S->Option (S ⊕ (S ⊕ Empty)),(∀ k s,k < L.length->I k s->∃ s',body k s=some (.inl s')/\I (k + 1) s')->∃ s',jn (forN body L.length 0 s0) (fun y:S=>some (Sum.inl y:S ⊕ Empty))=some (.inl s')/\I L.length s':=by
  intro body hb
  rcases wIF (body:=body) I (fun _=>False) L.length 0 s0 h0 (fun k s _ hk hI=>.inl (hb k s (by omega) hI)) with ⟨s',e,hs⟩ | ⟨_,_,h⟩
  ·rw [nc] at hs
   exact ⟨s',by rw [e];rfl,hs⟩
  ·exact h.elim
 refine key _ fun k s hk hI=>?_
 obtain ⟨s',e,hs⟩:=h k s hk hI
 refine ⟨s',?_,hs⟩
 rw [wBI hk,hD,e];rfl
structure wKM (r:wAT):Prop where
 n:r.Bibs.length <= 60
 t:r.Times.length=r.Bibs.length
 len:∀ l ∈ r.Times,l.length <= 20
 inc:∀ l ∈ r.Times,l.Pairwise (· < ·)
 pos:∀ l ∈ r.Times,∀ x ∈ l,0 <= x/\x <= 360000
 one:r.Bibs.Nodup
def nbf (τ:Nat->Option Int) (i:Nat) (t:Int):Prop:=∀ s,τ i=some s->t <= s
def lap (r:wAT) (τ:Nat->Option Int) (i:Nat) (t:Int) (j:Nat):Prop :=
 j < r.Bibs.length/\nbf τ j t/\t ∈ gd r.Times j/\cn (gd r.Times i) t + 2 <= cn (gd r.Times j) t
structure Exact (r:wAT) (ts:List Int) (τ:Nat->Option Int):Prop where
 in_:∀ i s,i < r.Bibs.length->τ i=some s->s ∈ ts
 iff:∀ i,i < r.Bibs.length->∀ t ∈ ts,nbf τ i t->(τ i=some t ↔ ∃ j,lap r τ i t j)
structure Ent (r:wAT) (τ:Nat->Option Int) (i:Nat) (o:wAO):Prop where
 bib:o.Bib=gd r.Bibs i
 time:τ i=some o.Time
 done:o.Done=cn (gd r.Times i) o.Time
 by_:∃ j,o.By=gd r.Bibs j/\lap r τ i o.Time j/\∀ k,lap r τ i o.Time k->gd r.Bibs j <= gd r.Bibs k
structure Ents (r:wAT) (τ:Nat->Option Int) (a:List wAO):Prop where
 of:∀ o ∈ a,∃ i,i < r.Bibs.length/\Ent r τ i o
 all:∀ i,i < r.Bibs.length->τ i ≠ none->∃ o ∈ a,o.Bib=gd r.Bibs i
 one:(a.map (·.Bib)).Nodup
def wGd (L:List Int) (k:Nat):Int:=if k=0 then -1 else gd L (k - 1)
structure RInv (r:wAT) (L:List Int) (k:Nat) (s:RS):Prop where
 laps:s.2.1=r.Laps
 bibs:s.2.2.1=r.Bibs
 times:s.2.2.2.1=r.Times
 dl:s.2.2.2.2.1.length=r.Bibs.length
 ol:s.2.2.2.2.2.length=r.Bibs.length
 al:s.1.length <= 60 * k
 tau:∃ τ,(∀ i,i < r.Bibs.length->gd s.2.2.2.2.2 i=(τ i).isSome)/\(∀ i,i < r.Bibs.length->gd s.2.2.2.2.1 i=cn (gd r.Times i) ((τ i).getD (wGd L k)))/\Exact r (L.take k) τ/\Ents r τ s.1
theorem wJs {r:wAT} (G:wKM r) {i j:Nat} (hi:i < r.Bibs.length) (hj:j < r.Bibs.length) (e:gd r.Bibs i=gd r.Bibs j):i=j:=by
 have pw:=nB.1 (nT.1 G.one)
 rw [wCr hi,wCr hj] at e
 rcases Nat.lt_trichotomy i j with c | c | c
 ·exact absurd e (pw i j hi hj c)
 ·exact c
 ·exact absurd e.symm (pw j i hj hi c)
theorem wJR {τ τ':Nat->Option Int} {t u:Int} {z:Nat->Prop} (h1:∀ i,z i->τ' i=some t/\τ i=none) (h2:∀ i,¬ z i->τ' i=τ i) (hu:u <= t) (i:Nat):nbf τ' i u ↔ nbf τ i u:=by
 by_cases c:z i
 ·obtain ⟨a,b⟩:=h1 i c
  unfold nbf
  constructor
  ·intro _ s hs;rw [b] at hs;cases hs
  ·intro _ s hs;rw [a] at hs;cases hs;exact hu
 ·unfold nbf;rw [h2 i c]
theorem wGe {r:wAT} {τ τ':Nat->Option Int} {t u:Int} {z:Nat->Prop} (h1:∀ i,z i->τ' i=some t/\τ i=none) (h2:∀ i,¬ z i->τ' i=τ i) (hu:u <= t) (i j:Nat):lap r τ' i u j ↔ lap r τ i u j:=by
 unfold lap
 rw [wJR h1 h2 hu]
theorem rA_is {r:wAT} (G:wKM r) {τ:Nat->Option Int} {p:wAN} (hp:wIq p) (hr:p.Race=r) {t:Int} {z:List Int} (hz:∀ x ∈ z,∃ i:Nat,x=i/\i < r.Bibs.length/\(∃ j,Lp p (gd p.done i) t j))
  (hL:∀ i j,i < r.Bibs.length->gd p.out i=false->(Lp p (gd p.done i) t j ↔ lap r τ i t j)) (ho:∀ x ∈ z,∀ i:Nat,x=i->gd p.out i=false) (hd:∀ i,i < r.Bibs.length->gd p.out i=false->gd p.done i=cn (gd r.Times i) t)
  (hzl:z.length <= 60) {a:List wAO} (ha:a.length <= 100000):∃ e,wBg 0 (↑z.length:Int) (rA p z t) a=some (a ++ e)/\e.length=z.length/\∀ q,q < z.length->(gd e q).Bib=gd r.Bibs (gd z q).toNat/\(gd e q).Time=t/\(gd e q).Done=cn (gd r.Times (gd z q).toNat) t/\∃ j,(gd e q).By=gd r.Bibs j/\lap r τ (gd z q).toNat t j/\∀ k,lap r τ (gd z q).toNat t k->gd r.Bibs j <= gd r.Bibs k:=by
 have hb:=hp.b
 obtain ⟨s,e,es,h1,h2,h3⟩:=wEE (body:=rA p z t) (n:=z.length) (s0:=a) (fun k s=>∃ e,s=a ++ e/\e.length=k/\∀ q,q < k->(gd e q).Bib=gd r.Bibs (gd z q).toNat/\(gd e q).Time=t/\(gd e q).Done=cn (gd r.Times (gd z q).toNat) t/\∃ j,(gd e q).By=gd r.Bibs j/\lap r τ (gd z q).toNat t j/\∀ k,lap r τ (gd z q).toNat t k->gd r.Bibs j <= gd r.Bibs k) (by omega) ⟨[],by simp,rfl,fun q hq=>by omega⟩ (fun k s hk ⟨e,hs,h2,h3⟩=>by
  obtain ⟨i,hi,hi2,j0,hj0⟩:=hz _ (wAm hk)
  have hout:=ho _ (wAm hk) i hi
  have hpd:=hp.d0 i (by rw [<- hb,hr];exact hi2)
  have hll:=hp.len _ (wAm (l:=p.Race.Times) (k:=i) (by have:=hp.t;rw [this,<- hb,hr];exact hi2))
  have hdn:=hd i hi2 hout
  rw [hr] at hb
  unfold rA
  rw [wCw (by omega) (by omega),hD,hi,hr,wBI hi2,hD,wCw (by omega) (by omega),hD,hJ]
  obtain ⟨x,ex,hx⟩:=wOJ hp (i:Int) (gd p.done i) t hpd.1 (by omega)
  rw [ex,hD]
  rcases hx with ⟨_,h5⟩ | ⟨j,h4,h5,h6,h7⟩
  ·exact absurd hj0 (h5 j0 hj0.1)
  ·subst h4
   have hj:j < r.Bibs.length:=by rw [hb];exact h5
   rw [wBI hj,hD,wEP (by rw [hs];simp;omega),hD]
   refine ⟨_,rfl,e ++ [⟨gd r.Bibs i,gd p.done i,t,gd r.Bibs j⟩],by rw [hs,np],by simp [h2],fun q hq=>?_⟩
   by_cases c:q=k
   ·subst c
    have eg:gd (e ++ [(⟨gd r.Bibs i,gd p.done i,t,gd r.Bibs j⟩:wAO)]) q=⟨gd r.Bibs i,gd p.done i,t,gd r.Bibs j⟩:=by rw [<- h2,wGK]
    rw [eg,hi,hJ]
    refine ⟨rfl,rfl,hdn,j,rfl,(hL i j hi2 hout).1 h6,fun k hk=>?_⟩
    have hk2:=(hL i k hi2 hout).2 hk
    rw [hr] at h7
    exact h7 k hk2.1 hk2
   ·rw [wDc (by omega)]
    exact h3 q (by omega))
 exact ⟨es,by rw [e,h1],h2,h3⟩
theorem rO_is {z:List Int} {n:Nat} (hz:∀ x ∈ z,0 <= x/\x < n) (hzl:z.length <= 60) {o:List Bool} (ho:o.length=n):∃ o',wBg 0 (↑z.length:Int) (rO z) o=some o'/\o'.length=n/\∀ i:Nat,i < n->gd o' i=if (i:Int) ∈ z then true else gd o i:=by
 obtain ⟨o',e,h1,h2⟩:=wEE (body:=rO z) (n:=z.length) (s0:=o) (fun k o'=>o'.length=n/\∀ i:Nat,i < n->gd o' i=if (i:Int) ∈ z.take k then true else gd o i) (by omega) ⟨ho,fun i _=>by simp⟩ (fun k s hk ⟨h1,h2⟩=>by
  have hr:=hz _ (wAm hk)
  unfold rO
  rw [wCw (by omega) (by omega),hD,wCw (by omega) (by omega),hD]
  refine ⟨_,rfl,by simpa using h1,fun i hi=>?_⟩
  rw [wJi (by omega) (by omega),h2 i hi,wEk hk]
  by_cases c:i=(gd z k).toNat
  ·rw [if_pos c,if_pos (by rw [nH,nA];right;omega)]
  ·rw [if_neg c]
   have:((i:Int) ∈ z.take k ++ [gd z k]) ↔ (i:Int) ∈ z.take k:=by
    rw [nH,nA]
    exact ⟨fun h=>h.elim id fun h=>absurd h (by omega),.inl⟩
   simp only [this])
 exact ⟨o',e,h1,fun i hi=>by rw [h2 i hi,nN]⟩
end Go.Proofs.YtkghaiefcjgfkaaGreat
namespace Go.Proofs.YtkghaiefcjgfkaaGreat
open Go.KL
structure Times (r:wAT) (L:List Int):Prop where
 inc:L.Pairwise (· < ·)
 all:∀ x,x ∈ L ↔ ∃ l ∈ r.Times,x ∈ l
 len:L.length <= 1200
theorem wNI {L:List Int} (hL:L.Pairwise (· < ·)) (h0:∀ x ∈ L,0 <= x) {k:Nat} (hk:k < L.length):wGd L k < gd L k/\(∀ x ∈ L.take k,x <= wGd L k/\x < gd L k)/\∀ x ∈ L,wGd L k < x->gd L k <= x:=by
 have mono:∀ i j,i < j->j < L.length->gd L i < gd L j:=fun i j hij hj=>by
  have:=nB.1 hL i j (by omega) hj hij
  rwa [<- wCr (by omega),<- wCr hj] at this
 have le:∀ i j,i <= j->j < L.length->gd L i <= gd L j:=fun i j hij hj=>by
  by_cases e:i=j
  ·subst e;exact nO _
  ·exact nz (mono i j (by omega) hj)
 unfold wGd
 refine ⟨?_,fun x hx=>?_,fun x hx hlt=>?_⟩
 ·split
  ·have:=h0 _ (wAm hk);omega
  ·exact mono _ _ (by omega) hk
 ·obtain ⟨i,hi,e⟩:=nJ hx
  rw [nI] at hi
  rw [List.getElem_take,<- wCr (by omega)] at e
  subst e
  rw [if_neg (by omega)]
  exact ⟨le _ _ (by omega) (by omega),mono _ _ (by omega) hk⟩
 ·obtain ⟨i,hi,e⟩:=nJ hx
  rw [<- wCr hi] at e
  subst e
  rcases kR i k with c | c
  ·exfalso
   rw [if_neg (by omega)] at hlt
   have:=le i (k - 1) (by omega) (by omega)
   omega
  ·exact le _ _ c hi
theorem wMF {r:wAT} (G:wKM r) {L:List Int} (hT:Times r L) {k:Nat} (hk:k < L.length) {s:RS} (I:RInv r L k s):∃ s',rB s (gd L k)=some (.inl s')/\RInv r L (k + 1) s':=by
 obtain ⟨A,laps,bibs,times,done,out⟩:=s
 obtain ⟨e1,e2,e3,dl,ol,al,τ,to,td,tx,te⟩:=I
 simp only at e1 e2 e3 dl ol al to td te
 subst e1 e2 e3
 have hn:=G.n
 have hrt:=G.t
 have hpos:∀ x ∈ L,0 <= x:=fun x hx=>by
  obtain ⟨l,hl,hx⟩:=(hT.all x).1 hx
  exact (G.pos l hl x hx).1
 obtain ⟨lt1,lt2,lt3⟩:=wNI hT.inc hpos hk
 have hkl:=hT.len
 generalize ht:gd L k=t at lt1 lt2 lt3 ⊢
 have tin:∀ i,i < r.Bibs.length->gd r.Times i ∈ r.Times:=fun i hi=>wAm (by omega)
 let p:wAN:=⟨r,done,out⟩
 have Gp:wIq p:=⟨by show done.length <= 60;omega,by show out.length=done.length;omega,by show r.Bibs.length=done.length;omega,by show r.Times.length=done.length;omega,fun i hi=>by
  have hi':i < r.Bibs.length:=by rw [<- dl];exact hi
  show 0 <= gd done i/\gd done i <= ((gd r.Times i).length:Int)
  rw [td i hi']
  have:=wKK (gd r.Times i) ((τ i).getD (wGd L k))
  omega,fun l hl=>by have:=G.len l hl;omega⟩
 obtain ⟨z,y,ez,yl,yn,Gy,zp,zi⟩:=wNH Gp t
 have yl':y.length=r.Bibs.length:=by rw [yl];exact dl
 have outN:∀ i,i < r.Bibs.length->(gd out i=false ↔ τ i=none):=fun i hi=>by
  rw [to i hi]
  cases τ i <;> simp
 have yv:∀ i,i < r.Bibs.length->gd y i=cn (gd r.Times i) ((τ i).getD t):=fun i hi=>by
  have h1:=yn i (by rw [dl];exact hi)
  rw [h1]
  unfold nx
  show (if gd out i=false/\gd done i < ((gd r.Times i).length:Int)/\gd (gd r.Times i) (gd done i).toNat=t then gd done i + 1 else gd done i)=_
  cases hτ:τ i with
  | some s =>
   have ho:gd out i=true:=by rw [to i hi,hτ];rfl
   rw [if_neg (fun h=>by rw [ho] at h;exact nf h.1),td i hi,hτ]
   rfl
  | none =>
   have ho:gd out i=false:=(outN i hi).2 hτ
   have hd:=td i hi
   rw [hτ] at hd
   simp only [kA] at hd ⊢
   rw [wNG (G.inc _ (tin i hi)) lt1 (fun x hx hlt=>lt3 x ((hT.all x).2 ⟨_,tin i hi,hx⟩) hlt),hd]
   by_cases c:cn (gd r.Times i) (wGd L k) < (gd r.Times i).length/\gd (gd r.Times i) (cn (gd r.Times i) (wGd L k))=t
   ·rw [if_pos c,if_pos ⟨ho,by omega,by rw [hJ];exact c.2⟩]
    omega
   ·rw [if_neg c,if_neg (fun h=>c ⟨by omega,by have:=h.2.2;rwa [hJ] at this⟩)]
 have nbN:∀ j,j < r.Bibs.length->(nbf τ j t ↔ τ j=none):=fun j hj=>by
  constructor
  ·intro h
   cases hτ:τ j with
   | none=>rfl
   | some s =>
    have h1:=h s hτ
    have h2:=lt2 s (tx.in_ j s hj hτ)
    omega
  ·intro h s hs;rw [h] at hs;cases hs
 have lapN:∀ i j,i < r.Bibs.length->gd out i=false->(Lp (⟨r,y,out⟩:wAN) (gd y i) t j ↔ lap r τ i t j):=fun i j hi ho=>by
  have yi:gd y i=cn (gd r.Times i) t:=by rw [yv i hi,(outN i hi).1 ho];rfl
  unfold Lp lap
  show (j < y.length/\gd out j=false/\gd y i + 2 <= gd y j/\gd (gd r.Times j) (gd y j - 1).toNat=t) ↔ _
  rw [yl']
  constructor
  ·rintro ⟨hj,h1,h2,h3⟩
   have hτ:=(outN j hj).1 h1
   have yj:gd y j=cn (gd r.Times j) t:=by rw [yv j hj,hτ];rfl
   rw [yi,yj] at h2
   rw [yj] at h3
   have hle:=wKK (gd r.Times j) t
   refine ⟨hj,(nbN j hj).2 hτ,?_,by omega⟩
   have hm:=wAm (l:=gd r.Times j) (k:=((cn (gd r.Times j) t:Nat) - 1:Int).toNat) (by omega)
   rwa [h3] at hm
  ·rintro ⟨hj,h1,h2,h3⟩
   have hτ:=(nbN j hj).1 h1
   have yj:gd y j=cn (gd r.Times j) t:=by rw [yv j hj,hτ];rfl
   obtain ⟨c1,c2,c3⟩:=wOI (G.inc _ (tin j hj)) h2
   refine ⟨hj,(outN j hj).2 hτ,by rw [yi,yj];omega,?_⟩
   rw [yj,show (((cn (gd r.Times j) t:Nat):Int) - 1).toNat=cn (gd r.Times j) t - 1 by omega]
   exact c3
 have zin:∀ x,x ∈ z ↔ ∃ i:Nat,x=i/\i < r.Bibs.length/\τ i=none/\∃ j,lap r τ i t j:=fun x=>by
  rw [zi]
  constructor
  ·rintro ⟨i,h1,h2,h3,j,h4⟩
   have hi:i < r.Bibs.length:=by rw [<- dl];exact h2
   exact ⟨i,h1,hi,(outN i hi).1 h3,j,(lapN i j hi h3).1 h4⟩
  ·rintro ⟨i,h1,hi,h3,j,h4⟩
   exact ⟨i,h1,by rw [<- dl] at hi;exact hi,(outN i hi).2 h3,j,(lapN i j hi ((outN i hi).2 h3)).2 h4⟩
 have zl:z.length <= 60:=by
  have key:∀ m,m < z.length->(m:Int) <= gd z m:=by
   intro m
   induction m with
   | zero =>
    intro hm
    obtain ⟨i,h1,_⟩:=(zin _).1 (wAm hm)
    omega
   | succ m ih =>
    intro hm
    have h3:=ih (by omega)
    have h4:=nB.1 zp m (m + 1) (by omega) hm (by omega)
    rw [<- wCr (by omega),<- wCr hm] at h4
    omega
  rcases kR 60 z.length with c | c
  ·have h5:=key 60 c
   obtain ⟨i,h1,h2,_⟩:=(zin _).1 (wAm c)
   omega
  ·exact c
 obtain ⟨E,eE,El,Ee⟩:=rA_is (τ:=τ) G (p:=⟨r,y,out⟩) Gy rfl (t:=t) (z:=z) (fun x hx=>by
   obtain ⟨i,h1,h2,h3,j,h4⟩:=(zin x).1 hx
   exact ⟨i,h1,h2,j,(lapN i j h2 ((outN i h2).2 h3)).2 h4⟩) lapN (fun x hx i hi=>by
   obtain ⟨i',h1,h2,h3,_⟩:=(zin x).1 hx
   have:i=i':=by omega
   subst this
   exact (outN i h2).2 h3) (fun i hi ho=>by
   show gd y i=_
   rw [yv i hi,(outN i hi).1 ho];rfl) zl (a:=A) (by omega)
 obtain ⟨o',eo,ol',oi⟩:=rO_is (n:=r.Bibs.length) (z:=z) (fun x hx=>by
  obtain ⟨i,h1,h2,_⟩:=(zin x).1 hx
  omega) zl (o:=out) ol
 have er:rB (A,r.Laps,r.Bibs,r.Times,done,out) t=some (.inl (A ++ E,r.Laps,r.Bibs,r.Times,y,o')):=by
  unfold rB
  simp only
  rw [show wBG (⟨(⟨r.Laps,r.Bibs,r.Times⟩:wAT),done,out⟩:wAN) t=some (z,(⟨r,y,out⟩:wAN)) from ez,hD]
  simp only
  rw [eE,hD,eo,hD]
 obtain ⟨τ',hτ1,hτ2⟩:∃ τ':Nat->Option Int,(∀ i:Nat,(i:Int) ∈ z->τ' i=some t)/\∀ i:Nat,¬ (i:Int) ∈ z->τ' i=τ i:=⟨fun i=>if (i:Int) ∈ z then some t else τ i,fun i hi=>if_pos hi,fun i hi=>if_neg hi⟩
 refine ⟨_,er,rfl,rfl,rfl,yl',ol',by simp only [nQ];omega,τ',fun i hi=>?_,fun i hi=>?_,?_,?_⟩
 ·simp only
  rw [oi i hi]
  by_cases c:(i:Int) ∈ z
  ·rw [if_pos c,hτ1 i c];rfl
  ·rw [if_neg c,hτ2 i c];exact to i hi
 ·simp only
  rw [yv i hi]
  have hl:wGd L (k + 1)=t:=by unfold wGd;rw [if_neg (by omega)];exact ht
  rw [hl]
  by_cases c:(i:Int) ∈ z
  ·rw [hτ1 i c]
   obtain ⟨i',h1,h2,h3,_⟩:=(zin _).1 c
   have:i=i':=by omega
   subst this
   rw [h3];rfl
  ·rw [hτ2 i c]
 ·
  have h1:∀ i:Nat,(i:Int) ∈ z->τ' i=some t/\τ i=none:=fun i hi=>by
   obtain ⟨i',h1,_,h3,_⟩:=(zin _).1 hi
   have:i=i':=by omega
   subst this
   exact ⟨hτ1 i hi,h3⟩
  have h2:∀ i:Nat,¬ (i:Int) ∈ z->τ' i=τ i:=hτ2
  have tk:∀ u,u ∈ L.take (k + 1) ↔ u ∈ L.take k \/ u=t:=fun u=>by rw [wEk hk,nH,nA,ht]
  refine ⟨fun i u hi hu=>?_,fun i hi u hu hnb=>?_⟩
  ·rw [tk]
   by_cases c:(i:Int) ∈ z
   ·have:=(h1 i c).1
    rw [this] at hu
    right
    exact (na hu).symm
   ·rw [h2 i c] at hu
    exact .inl (tx.in_ i u hi hu)
  ·rcases (tk u).1 hu with hu | hu
   ·have hut:=(lt2 u hu).2
    rw [wJR (z:=fun i:Nat=>(i:Int) ∈ z) h1 h2 (nz hut)] at hnb
    have:=tx.iff i hi u hu hnb
    simp only [wGe (r:=r) (z:=fun i:Nat=>(i:Int) ∈ z) h1 h2 (nz hut)]
    rw [<- this]
    by_cases c:(i:Int) ∈ z
    ·rw [(h1 i c).1,(h1 i c).2]
     exact ⟨fun h=>by have:=na h;omega,fun h=>by cases h⟩
    ·rw [h2 i c]
   ·subst hu
    rw [wJR (z:=fun i:Nat=>(i:Int) ∈ z) h1 h2 (nO _),nbN i hi] at hnb
    simp only [wGe (r:=r) (z:=fun i:Nat=>(i:Int) ∈ z) h1 h2 (nO _)]
    constructor
    ·intro h
     by_cases c:(i:Int) ∈ z
     ·obtain ⟨i',g1,_,_,g4⟩:=(zin _).1 c
      have:i=i':=by omega
      subst this
      exact g4
     ·rw [h2 i c,hnb] at h;cases h
    ·intro h
     exact (h1 i ((zin _).2 ⟨i,rfl,hi,hnb,h⟩)).1
 ·have h1:∀ i:Nat,(i:Int) ∈ z->τ' i=some t/\τ i=none:=fun i hi=>by
   obtain ⟨i',h1,_,h3,_⟩:=(zin _).1 hi
   have:i=i':=by omega
   subst this
   exact ⟨hτ1 i hi,h3⟩
  have h2:∀ i:Nat,¬ (i:Int) ∈ z->τ' i=τ i:=hτ2
  have hA:∀ o ∈ A,∃ i,i < r.Bibs.length/\Ent r τ i o/\¬ (i:Int) ∈ z/\o.Time <= t:=fun o ho=>by
   obtain ⟨i,hi,hE⟩:=te.of o ho
   refine ⟨i,hi,hE,fun c=>?_,nz (lt2 _ (tx.in_ i _ hi hE.time)).2⟩
   have:=(h1 i c).2
   rw [hE.time] at this
   cases this
  have hE:∀ q,q < z.length->∃ i:Nat,gd z q=i/\i < r.Bibs.length/\τ i=none/\(i:Int) ∈ z:=fun q hq=>by
   obtain ⟨i,g1,g2,g3,_⟩:=(zin _).1 (wAm hq)
   exact ⟨i,g1,g2,g3,g1 ▸ wAm hq⟩
  refine ⟨fun o ho=>?_,fun i hi hτ=>?_,?_⟩
  ·rcases nH.1 ho with ho | ho
   ·obtain ⟨i,hi,he,hz,hot⟩:=hA o ho
    obtain ⟨j,j1,j2,j3⟩:=he.by_
    refine ⟨i,hi,he.bib,by rw [h2 i hz];exact he.time,he.done,j,j1,(wGe (z:=fun i:Nat=>(i:Int) ∈ z) h1 h2 hot i j).2 j2,fun q hq=>j3 q ((wGe (z:=fun i:Nat=>(i:Int) ∈ z) h1 h2 hot i q).1 hq)⟩
   ·obtain ⟨q,hq,eq⟩:=nJ ho
    rw [<- wCr hq] at eq
    subst eq
    obtain ⟨i,g1,g2,_,g4⟩:=hE q (by omega)
    obtain ⟨b1,b2,b3,j,j1,j2,j3⟩:=Ee q (by omega)
    rw [g1,hJ] at b1 b3 j2
    refine ⟨i,g2,b1,by rw [b2];exact (h1 i g4).1,by rw [b2];exact b3,j,j1,by rw [b2];exact (wGe (z:=fun i:Nat=>(i:Int) ∈ z) h1 h2 (nO _) i j).2 j2,fun q' hq'=>?_⟩
    rw [b2] at hq'
    have:=j3 q' (by rw [g1,hJ];exact (wGe (z:=fun i:Nat=>(i:Int) ∈ z) h1 h2 (nO _) i q').1 hq')
    exact this
  ·by_cases c:(i:Int) ∈ z
   ·obtain ⟨q,hq,eq⟩:=nJ c
    rw [<- wCr hq] at eq
    refine ⟨gd E q,List.mem_append_right _ (wAm (by omega)),?_⟩
    rw [(Ee q hq).1,eq,hJ]
   ·rw [hτ2 i c] at hτ
    obtain ⟨o,ho,e⟩:=te.all i hi hτ
    exact ⟨o,List.mem_append_left _ ho,e⟩
  ·rw [kD,nq]
   refine ⟨te.one,?_,fun a ha b hb e=>?_⟩
   ·rw [nT,nB]
    intro a b ha hb hab e
    rw [ng] at ha hb
    rw [nX,nX,<- wCr ha,<- wCr hb,(Ee a (by omega)).1,(Ee b (by omega)).1] at e
    obtain ⟨i,g1,g2,_⟩:=hE a (by omega)
    obtain ⟨j,g3,g4,_⟩:=hE b (by omega)
    rw [g1,g3,hJ,hJ] at e
    have:=wJs G g2 g4 e
    have h4:=nB.1 zp a b (by omega) (by omega) hab
    rw [<- wCr (by omega),<- wCr (by omega)] at h4
    omega
   ·obtain ⟨o,ho,e1⟩:=nR.1 ha
    obtain ⟨i,hi,he,hz,_⟩:=hA o ho
    obtain ⟨o2,ho2,e2⟩:=nR.1 hb
    obtain ⟨q,hq,eq⟩:=nJ ho2
    rw [<- wCr hq] at eq
    subst eq
    obtain ⟨j,g3,g4,_,g5⟩:=hE q (by omega)
    rw [(Ee q (by omega)).1,g3,hJ] at e2
    have:=wJs G hi g4 (by rw [<- he.bib,e1,e,e2])
    subst this
    exact hz g5
end Go.Proofs.YtkghaiefcjgfkaaGreat
namespace Go.Proofs.YtkghaiefcjgfkaaGreat
open Go.KL
theorem wHg {zs:List Int} (h:zs.Pairwise (· <= ·)):(Go.Lib.compact zs).Pairwise (· < ·)/\(∀ x,x ∈ Go.Lib.compact zs ↔ x ∈ zs)/\(Go.Lib.compact zs).length <= zs.length:=by
 have hg:∀ i,i < zs.length->(zs.toArray[i]!)=gd zs i:=fun i hi=>by
  rw [getElem!_pos zs.toArray i (by simpa using hi),wCr hi];simp
 have le:∀ i j,i <= j->j < zs.length->gd zs i <= gd zs j:=fun i j hij hj=>by
  by_cases e:i=j
  ·subst e;exact nO _
  ·have:=nB.1 h i j (by omega) hj (by omega)
   rwa [<- wCr (by omega),<- wCr hj] at this
 have key:∀ m,m <= zs.length->(Go.Lib.compactUpTo zs.toArray m).Pairwise (· < ·)/\(∀ x,x ∈ Go.Lib.compactUpTo zs.toArray m ↔ ∃ j,j < m/\gd zs j=x)/\(Go.Lib.compactUpTo zs.toArray m).length <= m:=by
  intro m
  induction m with
  | zero=>intro _;exact ⟨by simp [Go.Lib.compactUpTo],fun x=>by simp [Go.Lib.compactUpTo],by simp [Go.Lib.compactUpTo]⟩
  | succ m ih =>
   intro hm
   obtain ⟨h1,h2,h3⟩:=ih (by omega)
   rw [Go.Lib.compactUpTo_succ]
   by_cases c:Go.Lib.keeps zs.toArray m=true
   ·rw [if_pos c,hg m (by omega)]
    refine ⟨?_,fun x=>?_,by simp;omega⟩
    ·rw [kH]
     refine ⟨h1,kB _ _,fun a ha b hb=>?_⟩
     obtain ⟨j,hj,e⟩:=(h2 a).1 ha
     have hb':=nA.1 hb
     unfold Go.Lib.keeps at c
     simp only [decide_eq_true_iff] at c
     rcases c with c | c
     ·omega
     ·rw [hg m (by omega),hg (m - 1) (by omega)] at c
      have l1:=le j (m - 1) (by omega) (by omega)
      have l2:=le (m - 1) m (by omega) (by omega)
      omega
    ·rw [nH,nA,h2]
     constructor
     ·rintro (⟨j,hj,e⟩ | e)
      ·exact ⟨j,by omega,e⟩
      ·exact ⟨m,by omega,e.symm⟩
     ·rintro ⟨j,hj,e⟩
      by_cases ej:j=m
      ·subst ej;exact .inr e.symm
      ·exact .inl ⟨j,by omega,e⟩
   ·rw [if_neg c,kE]
    refine ⟨h1,fun x=>?_,by omega⟩
    have m0:m ≠ 0/\gd zs m=gd zs (m - 1):=by
     unfold Go.Lib.keeps at c
     simp only [decide_eq_true_iff,not_or,ne_eq,Decidable.not_not] at c
     have:=c.2
     rw [hg m (by omega),hg (m - 1) (by omega)] at this
     exact ⟨c.1,this⟩
    rw [h2]
    constructor
    ·rintro ⟨j,hj,e⟩
     exact ⟨j,by omega,e⟩
    ·rintro ⟨j,hj,e⟩
     by_cases ej:j=m
     ·subst ej;exact ⟨j - 1,by omega,by rw [<- m0.2];exact e⟩
     ·exact ⟨j,by omega,e⟩
 obtain ⟨h1,h2,h3⟩:=key zs.length (kT _)
 refine ⟨h1,fun x=>?_,h3⟩
 show x ∈ Go.Lib.compactUpTo zs.toArray zs.length ↔ _
 rw [h2]
 constructor
 ·rintro ⟨j,hj,e⟩
  exact e ▸ wAm hj
 ·intro hx
  obtain ⟨j,hj,e⟩:=nJ hx
  exact ⟨j,hj,by rw [wCr hj];exact e⟩
theorem wJt {T:List (List Int)} (hl:∀ l ∈ T,l.length <= 20):∀ k,(T.take k).flatten.length <= 20 * k:=by
 intro k
 induction k generalizing T with
 | zero=>simp
 | succ k ih =>
  cases T with
  | nil=>simp
  | cons a T =>
   rw [List.take_succ_cons,List.flatten_cons,nQ]
   have:=hl a (by simp)
   have:=ih (T:=T) fun l h=>hl l (by simp [h])
   omega
theorem wIr {T:List (List Int)} {k:Nat} (hk:k < T.length):(T.take (k + 1)).flatten=(T.take k).flatten ++ gd T k:=by
 rw [wEk hk,List.flatten_append];simp
theorem wLU {T:List (List Int)} (hn:T.length <= 60) (hl:∀ l ∈ T,l.length <= 20):wBX T=some T.flatten:=by
 unfold wBX
 have fl:=wJt hl
 obtain ⟨x,ex,hx⟩:=wEE (body:=fun (k7:Nat) (x6:Int) =>
  (idx T (↑k7:Int)).bind fun x29 =>
  if (w64 (x6 + (↑x29.length:Int))) < 0 then
   none
  else
   some (w64 (x6 + (↑x29.length:Int)))) (n:=T.length) (s0:=(0:Int)) (fun k x=>x=((T.take k).flatten.length:Int)) (by omega) (by simp) (fun k x hk hx=>by
  have h1:=hl _ (wAm hk)
  have h2:=fl k
  rw [wBI hk,hD,hx,wAW (by omega) (by omega),if_neg (by omega)]
  exact ⟨_,rfl,by rw [wIr hk,nQ];omega⟩)
 have h60:=fl T.length
 rw [nN] at h60 hx
 have eg:wBq [] x=some []:=by
  unfold wBq
  rw [if_neg (by omega),wAW (by omega) (by omega)]
  by_cases c:0 < x - 0
  ·rw [if_pos c,appZ,if_pos (by omega)];rfl
  ·rw [if_neg c]
 have e2:=wGJ (body:=fun (k86:Nat) (l83:List Int) =>
  (idx T (↑k86:Int)).bind fun x107 =>
  (app 8 l83 x107).bind fun x122 =>
  some x122) (n:=T.length) (s0:=[]) (fun k=>(T.take k).flatten) (by simp) (by omega) (fun i hi=>by
  have h1:=hl _ (wAm hi)
  have h2:=fl i
  rw [wBI hi,hD,wEP (by omega),hD,wIr hi])
 rw [nN] at e2
 rw [ex,hD,eg,hD,e2,hD]
theorem wMG {r:wAT} (G:wKM r):∃ L,wBw r=some L/\Times r L:=by
 unfold wBw
 have hn:=G.n
 have hl:=wJt G.len r.Times.length
 rw [nN] at hl
 have ht:=G.t
 rw [wLU (by omega) G.len,hD]
 have e1:wCR r.Times.flatten=some (r.Times.flatten.mergeSort fun x y=>decide (x <= y)):=by
  unfold wCR wLg
  exact if_pos (by omega)
 rw [e1,hD]
 have hp:=kL r.Times.flatten fun x y=>decide (x <= y)
 have so:=kC (le:=fun x y:Int=>decide (x <= y)) (fun a b c h1 h2=>by simp at h1 h2 ⊢;omega) (fun a b=>by simp;omega) r.Times.flatten
 have hlen:=hp.length_eq
 generalize r.Times.flatten.mergeSort (fun x y=>decide (x <= y))=M at hp so hlen
 obtain ⟨c1,c2,c3⟩:=wHg (zs:=M) (so.imp fun h=>by simpa using h)
 have e2:wBv M=some (Go.Lib.compact M):=by
  unfold wBv wGl
  exact if_pos (by omega)
 rw [e2,hD]
 unfold wCB
 refine ⟨_,rfl,c1,fun x=>?_,by omega⟩
 rw [c2,hp.mem_iff,List.mem_flatten]
def ltO (a b:wAO):Prop:=a.Time < b.Time \/ a.Time=b.Time/\a.Bib < b.Bib
instance (a b:wAO):Decidable (ltO a b):=by unfold ltO;exact inferInstance
theorem cmpO (a b:wAO):wBD a b=some (if a.Time < b.Time then -1 else if b.Time < a.Time then 1 else if a.Bib < b.Bib then -1 else if b.Bib < a.Bib then 1 else 0):=by
 have hc:∀ x y:Int,wCG x y=some (if x < y then -1 else if y < x then 1 else 0):=fun x y=>by
  unfold wCG wCy
  simp only [not_true_eq_false,decide_false,hD,nP,if_false]
  split
  ·rfl
  ·split <;> rfl
 have ho:∀ x y:Int,wDt [x,y]=some (if x=0 then y else x):=fun x y=>by
  unfold wDt
  rw [wDb (by simp)]
  show jn (forN _ 2 0 ()) _=_
  have i0:idx [x,y] ((0:Nat):Int)=some x:=rfl
  have i1:idx [x,y] ((0 + 1:Nat):Int)=some y:=rfl
  simp only [forN,i0,i1,hD]
  by_cases c:x=0
  ·simp only [if_pos c]
   by_cases d:y=0
   ·simp only [if_pos d,d];rfl
   ·simp only [if_neg d];rfl
  ·simp only [if_neg c];rfl
 unfold wBD
 rw [hc,hD,hc,hD,ho,hD]
 by_cases c1:a.Time < b.Time
 ·simp [c1]
 ·by_cases c2:b.Time < a.Time
  ·simp [c1,c2]
  ·simp only [c1,c2,if_false,if_true]
structure RunP (r:wAT) (D:List Int) (A:List wAO) (τ:Nat->Option Int):Prop where
 dl:D.length=r.Bibs.length
 done:∀ i,i < r.Bibs.length->(τ i=none/\gd D i=(gd r.Times i).length) \/ ∃ s,τ i=some s/\gd D i=cn (gd r.Times i) s
 ex:∀ i,i < r.Bibs.length->∀ j,j < r.Bibs.length->∀ t ∈ gd r.Times j,nbf τ i t->(τ i=some t ↔ ∃ k,lap r τ i t k)
 in_:∀ i s,i < r.Bibs.length->τ i=some s->∃ l ∈ r.Times,s ∈ l
 ents:Ents r τ A
 ord:A.Pairwise ltO
 al:A.length <= 100000
theorem wOL {r:wAT} (G:wKM r):∃ p A τ,wDi r=some (p,A)/\RunP r p.done A τ:=by
 rw [wKL]
 have hn:=G.n
 have ht:=G.t
 rw [mkz,if_pos (by omega),hD,mkz,if_pos (by omega),hD,hD]
 simp only
 obtain ⟨L,eL,hT⟩:=wMG G
 rw [eL,hD]
 have hpos:∀ x ∈ L,0 <= x:=fun x hx=>by
  obtain ⟨l,hl,hx⟩:=(hT.all x).1 hx
  exact (G.pos l hl x hx).1
 have hll:=hT.len
 obtain ⟨⟨A,laps,bibs,times,done,out⟩,e,I⟩:=wLT (f:=rB) (L:=L) (s0:=([],r.Laps,r.Bibs,r.Times,nK (r.Bibs.length:Int).toNat 0,nK (r.Bibs.length:Int).toNat false)) (RInv r L) (by omega) ⟨rfl,rfl,rfl,by simp,by simp,by simp,fun _=>none,fun i hi=>by rw [wCr (by simpa using hi)];simp,fun i hi=>by
   rw [wCr (by simpa using hi)]
   have:cn (gd r.Times i) (-1)=0:=ni.2 fun x hx=>by
    have:=(G.pos _ (wAm (l:=r.Times) (k:=i) (by omega)) x hx).1
    simp;omega
   simp only [kA,wGd,if_true,this,List.getElem_replicate]
   rfl,⟨(fun i s _ h=>by cases h),(fun i _ t ht=>by rw [List.take_zero] at ht;cases ht)⟩,⟨(fun o ho=>by cases ho),(fun i _ h=>absurd rfl h),by simp⟩⟩ (fun k s hk I=>wMF G hT hk I)
 rw [e,hD]
 obtain ⟨e1,e2,e3,dl,ol,al,τ,to,td,tx,te⟩:=I
 simp only at e1 e2 e3 dl ol al to td te
 rw [nN] at tx
 simp only
 have lt:∀ a b:wAO,ltB (fun x:wAO × wAO=>wBD x.1 x.2) a b=decide (ltO a b):=fun a b=>by
  unfold ltB ltO
  simp only [cmpO]
  by_cases c1:a.Time < b.Time
  ·simp [c1]
  ·by_cases c2:b.Time < a.Time
   ·simp [c1,c2];omega
   ·have c3:a.Time=b.Time:=by omega
    by_cases c4:a.Bib < b.Bib
    ·simp [c3,c4]
    ·by_cases c5:b.Bib < a.Bib <;> simp [c3,c4,c5]
 have one:∀ x ∈ A,∀ y ∈ A,x.Bib=y.Bib->x=y:=fun x hx y hy e=>by
  obtain ⟨i,hi,ei⟩:=nJ hx
  obtain ⟨j,hj,ej⟩:=nJ hy
  have pw:=nB.1 (nT.1 te.one)
  rcases Nat.lt_trichotomy i j with c | c | c
  ·have:=pw i j (by simpa using hi) (by simpa using hj) c
   rw [nX,nX,ei,ej] at this
   exact absurd e this
  ·subst c;rw [<- ei,<- ej]
  ·have:=pw j i (by simpa using hj) (by simpa using hi) c
   rw [nX,nX,ei,ej] at this
   exact absurd e.symm this
 have C:Cmp (fun x:wAO × wAO=>wBD x.1 x.2) A:=by
  refine ⟨by omega,fun x _ y _=>by show (wBD x y).isSome=true;rw [cmpO];rfl,fun x _=>by rw [lt];simp [ltO],fun x _ y _ w _ a b=>?_,fun x _ y _ w _ a b=>?_,fun x hx y hy a b=>?_⟩
  ·rw [lt] at a b ⊢
   simp only [decide_eq_true_iff] at a b ⊢
   simp only [ltO] at a b ⊢
   omega
  ·rw [lt] at a b ⊢
   simp only [decide_eq_false_iff_not] at a b ⊢
   simp only [ltO] at a b ⊢
   omega
  ·rw [lt] at a b
   simp only [decide_eq_false_iff_not] at a b
   simp only [ltO] at a b
   exact one x hx y hy (by omega)
 unfold wAs
 rw [wLh C,hD]
 have hp:=kL A fun x y=>!ltB (fun x:wAO × wAO=>wBD x.1 x.2) y x
 have so:=kC (le:=fun x y:wAO=>!ltB (fun x:wAO × wAO=>wBD x.1 x.2) y x) (fun a b c h1 h2=>by
   rw [lt] at h1 h2 ⊢
   simp only [nt,decide_eq_false_iff_not] at h1 h2 ⊢
   simp only [ltO] at h1 h2 ⊢
   omega) (fun a b=>by
   rw [lt,lt]
   simp only [Bool.or_eq_true,nt,decide_eq_false_iff_not]
   simp only [ltO]
   omega) A
 generalize A.mergeSort (fun x y=>!ltB (fun x:wAO × wAO=>wBD x.1 x.2) y x)=A' at hp so
 refine ⟨_,A',τ,rfl,dl,fun i hi=>?_,fun i hi j hj t htj=>tx.iff i hi t ((hT.all t).2 ⟨_,wAm (by omega),htj⟩),fun i s hi hs=>(hT.all s).1 (tx.in_ i s hi hs),⟨fun o ho=>te.of o (hp.mem_iff.1 ho),fun i hi h=>?_,(hp.map _).nodup_iff.2 te.one⟩,?_,by have:=hp.length_eq;omega⟩
 ·have hd:=td i hi
  cases hτ:τ i with
  | some s =>
   right
   refine ⟨s,rfl,?_⟩
   rw [hd,hτ];rfl
  | none =>
   left
   refine ⟨rfl,?_⟩
   show gd done i=_
   rw [hd,hτ]
   have:cn (gd r.Times i) (wGd L L.length)=(gd r.Times i).length:=by
    refine List.countP_eq_length.2 fun x hx=>?_
    have hxl:x ∈ L:=(hT.all x).2 ⟨_,wAm (by omega),hx⟩
    obtain ⟨q,hq,eq⟩:=nJ hxl
    rw [<- wCr hq] at eq
    unfold wGd
    rw [if_neg (by omega),<- eq]
    by_cases c:q=L.length - 1
    ·subst c;simp
    ·have:=nB.1 hT.inc q (L.length - 1) hq (by omega) (by omega)
     rw [<- wCr hq,<- wCr (by omega)] at this
     simp;omega
   rw [kA,this]
 ·obtain ⟨o,ho,e⟩:=te.all i hi h
  exact ⟨o,hp.mem_iff.2 ho,e⟩
 ·have nd:=(hp.map (·.Bib)).nodup_iff.2 te.one
  refine (so.and (List.pairwise_map.1 (nT.1 nd))).imp fun {a b} h=>?_
  obtain ⟨h1,h2⟩:=h
  rw [lt] at h1
  simp only [nt,decide_eq_false_iff_not] at h1 ⊢
  simp only [ltO] at h1 ⊢
  omega
end Go.Proofs.YtkghaiefcjgfkaaGreat
namespace Go.Proofs.YtkghaiefcjgfkaaGreat
open Go.KL
theorem wMH {K V:Type} [DecidableEq K] {m:List (K × V)} {x y:K} {v:V}:wIL (wFe m x v) y=if y=x then some v else wIL m y:=by
 induction m with
 | nil=>simp only [wFe,wIL]
 | cons p m ih =>
  obtain ⟨a,u⟩:=p
  rw [wFe]
  by_cases h:x=a
  ·subst h
   rw [if_pos rfl,wIL,wIL]
   split <;> rfl
  ·rw [if_neg h,wIL,wIL,ih]
   by_cases h2:y=a
   ·rw [if_pos h2,if_neg (fun e:y=x=>h (e.symm.trans h2)),if_pos h2]
   ·rw [if_neg h2,if_neg h2]
theorem wMI {l:List Int} (hl:l.length <= 1000) (hd:l.Nodup):wDZ l=some false:=by
 unfold wDZ
 rw [wDb (by omega)]
 have key:∀ (m k:Nat) (t:List (Int × Bool)),k + m=l.length->(∀ n,wAv t n false=decide (n ∈ l.take k)) ->
   jn (forN (fun k20 l17 =>
  (idx l (↑k20:Int)).bind fun x41 =>
  if (wAv l17 x41 false)=true then
   esc (some true)
  else
   some (.inl (wFe l17 x41 true))) m k t) (fun _=>some false)=some false:=by
  intro m
  induction m with
  | zero=>intro k t _ _;rfl
  | succ m ih =>
   intro k t hk ht
   have hlt:k < l.length:=by omega
   have c:gd l k ∉ l.take k:=fun c=>by
    rw [<- List.take_append_drop k l,wMr hlt] at hd
    exact (nq.1 hd).2.2 _ c _ (by simp) rfl
   rw [forN,wBI hlt,hD,ht,if_neg (by simpa using c)]
   simp only
   refine ih (k + 1) _ (by omega) fun n=>?_
   unfold wAv at ht ⊢
   rw [wMH,wEk hlt]
   by_cases e:n=gd l k
   ·rw [if_pos e];simp [e]
   ·rw [if_neg e,ht];simp [e]
 exact key l.length 0 [] (by omega) (fun n=>by simp [wAv,wIL])
theorem wFF {n lo hi:Int} (h1:lo <= n) (h2:n <= hi):wDh n lo hi=some true:=by
 unfold wDh
 rw [if_pos h1]
 simp [h2]
theorem wJu {l:List (List Int)} {f:List Int->Option Bool} (hn:l.length <= 1000) (h:∀ a ∈ l,f a=some true):wCY l f=some true:=by
 unfold wCY
 rw [wDu (by omega) fun k hk=>?_]
 ·rfl
 ·rw [wBI hk,hD,h _ (wAm hk)]
  rfl
theorem wJv {l:List Int} {f:Int->Option Bool} (hn:l.length <= 1000) (h:∀ a ∈ l,f a=some true):wBu l f=some true:=by
 unfold wBu
 rw [wDu (by omega) fun k hk=>?_]
 ·rfl
 ·rw [wBI hk,hD,h _ (wAm hk)]
  rfl
structure wNJ (r:wAT):Prop where
 g:wKM r
 laps:1 <= r.Laps/\r.Laps <= 20
 le:∀ l ∈ r.Times,(l.length:Int) <= r.Laps
 bib:∀ b ∈ r.Bibs,1 <= b/\b <= 999
theorem wNK {r:wAT} (G:wNJ r):wCZ r=some 0:=by
  unfold wCZ
  have h1:=G.laps;have h2:=G.g.n;have h3:=G.g.t
  rw [wFF h1.1 h1.2,hD,if_pos rfl,if_neg (by omega),if_pos (by omega),wJu (by omega) fun X hX=>?_,hD,if_pos rfl,wJv (by omega) fun b hb=>?_,hD,if_pos rfl,wJu (by omega) fun X hX=>?_,hD,if_pos rfl,wMI (by omega) G.g.one,hD,if_neg (by decide),wDu (by omega) fun k hk=>?_]
  · rfl
  · have hXm:=wAm hk
    rw [wBI hk,hD]
    have hl:=G.g.len _ hXm
    have hpw:=G.g.inc _ hXm
    generalize gd r.Times k=X at hl hpw
    have hle:((X.length:Int) - 1).toNat <= 9223372036854775807:=by omega
    have key:wEG 1 (X.length:Int) (fun k132 (_:Unit) =>
                    (idx X (1 + ↑k132:Int)).bind fun x155 =>
                    (idx X (w64 ((1 + ↑k132:Int) - 1))).bind fun x163 =>
                    if x155 <= x163 then
                      esc (esc (some 4))
                    else
                      (some (.inl ()):Option (Unit ⊕ (Unit ⊕ Int)))) ()=some (.inl ()):=by
      unfold wEG
      rw [if_pos (by omega)]
      have:=wIG (S:=Unit) (B:=Unit ⊕ Int) (body:=fun k132 (_:Unit) =>
                    (idx X (1 + ↑k132:Int)).bind fun x155 =>
                    (idx X (w64 ((1 + ↑k132:Int) - 1))).bind fun x163 =>
                    if x155 <= x163 then
                      esc (esc (some 4))
                    else
                      some (.inl ())) (fun _=>()) ((X.length:Int) - 1).toNat 0 fun j _ hj=>by
        have e1:(1 + (j:Int))=((j + 1:Nat):Int):=by omega
        rw [wAW (by omega) (by omega),e1,show ((j + 1:Nat):Int) - 1=(j:Int) by omega,wBI (by omega),hD,wBI (by omega),hD,if_neg]
        have:=nB.1 hpw j (j + 1) (by omega) (by omega) (by omega)
        have a1:=wBb (xs:=X) (k:=j) (by omega)
        have a2:=wBb (xs:=X) (k:=j + 1) (by omega)
        rw [ny (by omega)] at a1 a2
        rw [<- na a1,<- na a2]
        omega
      exact this
    rw [key]
    rfl
  · have:=G.g.len X hX
    have hr:=G.g.pos X hX
    unfold wBl
    rw [wJv (by omega) fun a ha=>?_]
    · rfl
    · unfold wBW
      have:=hr a ha
      rw [wFF (by omega) (by omega)]
      rfl
  · have:=G.bib b hb
    unfold wBk
    rw [wFF this.1 this.2]
    rfl
  · have:=G.le X hX
    unfold wBj
    simp only [Option.some.injEq,decide_eq_true_eq]
    exact this
theorem wLV {r:wAT} (G:wNJ r) {p:wAN} {A:List wAO} (h:wDi r=some (p,A)):wDK r=some (A,0):=by
 unfold wDK
 rw [wNK G,hD,if_pos rfl,h];rfl
end Go.Proofs.YtkghaiefcjgfkaaGreat
namespace Go.Proofs.YtkghaiefcjgfkaaGreat
set_option maxRecDepth 100000 in
theorem aw06:wBz=some true:=by decide +kernel
end Go.Proofs.YtkghaiefcjgfkaaGreat
namespace Go.Proofs.YtkghaiefcjgfkaaGreat
open Go.KL Go.KL.Net
open Classical
def lpT (r:wAE) (y:Pt->Int) (s:Nat):List Int:=(gd (tt r y) s).drop 1
theorem wHr {r:wAE} {y:Pt->Int} {s:Nat} (hs:s < r.Starts.length):(lpT r y s).length=r.Splits.length:=by
 unfold lpT
 rw [nZ,wGN hs];omega
theorem wMJ {α:Type} [Inhabited α] {l:List α} {n i:Nat} (h:n + i < l.length):gd (l.drop n) i=gd l (n + i):=by
 rw [wCr (by rw [nZ];omega),wCr h,List.getElem_drop]
theorem wLW {r:wAE} {y:Pt->Int} {s j:Nat} (hs:s < r.Starts.length) (hj:j < r.Splits.length):gd (lpT r y s) j=y ⟨(s:Int),((j + 1:Nat):Int)⟩ - y zp:=by
 unfold lpT
 rw [wMJ (by rw [wGN hs];omega),wKJ hs (by omega),Nat.add_comm 1 j]
theorem pw_of {l:List Int} (h:∀ i,i + 1 < l.length->gd l i < gd l (i + 1)):l.Pairwise (· < ·):=by
 rw [nB]
 intro i j hi hj hij
 rw [<- wCr hi,<- wCr hj]
 obtain ⟨d,rfl⟩:∃ d,j=i + 1 + d:=⟨j - (i + 1),by omega⟩
 induction d with
 | zero=>exact h i hj
 | succ d ih =>
  have a:=ih (by omega) (by omega)
  have b:=h (i + 1 + d) (by omega)
  rw [show i + 1 + (d + 1)=i + 1 + d + 1 by omega]
  omega
theorem wJS {f:Nat->Int}:∀ {m:Nat},(∀ k,k < m->0 <= f k/\f k <= 1190)->0 <= wKI f m/\wKI f m <= 1190 * (m:Int)
 | 0,_=>by simp only [wKI];omega
 | m + 1,h=>by
  have a:=wJS (m:=m) fun k hk=>h k (by omega)
  have c:=h m (by omega)
  rw [wKI]
  omega
theorem wHB {l:List wAO} {f:wAO->Option Bool} {p:wAO->Bool} (hf:∀ a ∈ l,f a=some (p a)) (hl:l.length <= 100000):wAb l f=some (l.any p):=by
 unfold wAb wAq
 refine (congrArg (fun o=>Option.bind o fun x1:Int=>some (decide (0 <= x1))) (wKE (f:=f) (p:=p) hf (by omega) (fun x:Int=>x))).trans ?_
 exact congrArg some (wIg _ l 0)
theorem wOM {R:wAT} {D:List Int} {A:List wAO} {τ:Nat->Option Int} (P:RunP R D A τ) (hb:R.Bibs=[1,2]) (i0:(gd R.Times 0).Pairwise (· < ·)) (i1:(gd R.Times 1).Pairwise (· < ·)) {k:Nat} (h0:k + 1 < (gd R.Times 0).length) (h1:k < (gd R.Times 1).length) (hlt:gd (gd R.Times 0) (k + 1) < gd (gd R.Times 1) k) :
  (∃ o ∈ A,o.Bib=2/\o.Done <= (k:Int)) \/ ∃ o ∈ A,o.Bib=1:=by
 have nb:R.Bibs.length=2:=by rw [hb];rfl
 have c0:k + 1 < cn (gd R.Times 0) (gd (gd R.Times 0) (k + 1)):=(wJP i0 h0).2 (nO _)
 have c1:¬ k < cn (gd R.Times 1) (gd (gd R.Times 0) (k + 1)):=fun h=>by
  have:=(wJP i1 h1).1 h
  omega
 have mem:gd (gd R.Times 0) (k + 1) ∈ gd R.Times 0:=wAm h0
 generalize gd (gd R.Times 0) (k + 1)=s at c0 c1 mem
 have fin:∀ u,τ 1=some u->u <= s->∃ o ∈ A,o.Bib=2/\o.Done <= (k:Int):=fun u hu hus=>by
  obtain ⟨o,ho,eb⟩:=P.ents.all 1 (by omega) (by rw [hu];exact fun h=>by cases h)
  rw [hb] at eb
  have eb:o.Bib=2:=eb
  obtain ⟨i,hi,E⟩:=P.ents.of o ho
  have e1:i=1:=by
   have:=E.bib
   rw [eb,hb] at this
   match i,hi with
   | 0,_=>have:(2:Int)=1:=this;omega
   | 1,_=>rfl
   | i + 2,hi=>omega
  subst e1
  have et:o.Time=u:=by
   have:=E.time
   rw [hu] at this
   exact (na this).symm
  have ed:=E.done
  rw [et] at ed
  have:=wLS (gd R.Times 1) hus
  exact ⟨o,ho,eb,by omega⟩
 cases t0:τ 0 with
 | some v =>
  obtain ⟨o,ho,eb⟩:=P.ents.all 0 (by omega) (by rw [t0];exact fun h=>by cases h)
  rw [hb] at eb
  exact .inr ⟨o,ho,eb⟩
 | none =>
  left
  by_cases hn:nbf τ 1 s
  ·have:=(P.ex 1 (by omega) 0 (by omega) s mem hn).2 ⟨0,by omega,fun u hu=>(by rw [t0] at hu;cases hu),mem,by omega⟩
   exact fin s this (nO _)
  ·unfold nbf at hn
   have:∃ u,τ 1=some u/\u < s:=Classical.byContradiction fun h=>hn fun u hu=>by
    rcases kO u s with q | q
    ·exact absurd ⟨u,hu,q⟩ h
    ·exact q
   obtain ⟨u,hu,hlt⟩:=this
   exact fin u hu (by omega)
theorem wKN (p0:List Int) (p1:Int) (_:-9223372036854775808 <= p1) (_:p1 <= 9223372036854775807):wBo p0 p1=some true:=by
 have aw:=aw06
 unfold wBo
 rw [show wDV p0=some ⟨p0,0,17⟩ from rfl,hD]
 obtain ⟨r0,T,O,d',e,C0,L0,F0,h5,_,_,hsp,_,_,hq0,hst⟩:=wLP (d:=⟨p0,0,17⟩) rfl (u:=1) (w:=6) (q:=0) (by omega) (by omega) (by omega) (by omega) (by omega) (by omega)
 have n1:r0.Starts.length=1:=by have:=C0.n;omega
 have hTl:=L0.t
 have hq:r0.Readings=[]:=List.eq_nil_of_length_eq_zero (by omega)
 have hm7:=C0.m
 rw [e,hD]
 simp only
 by_cases hm:(r0.Splits.length:Int) < 2
 ·rw [if_pos hm,aw];rfl
 rw [if_neg hm,wCw (by omega) (by omega),hD,wEP (by simp only [nD,nL];omega),hD,wAW (x:=(r0.Splits.length:Int) - 1) (by omega) (by omega)]
 obtain ⟨kk,ek,k0,k1⟩:=wME p1 (n:=(r0.Splits.length:Int) - 1) (by omega) (by omega)
 obtain ⟨k,rfl⟩:∃ k:Nat,kk=(k:Int):=⟨kk.toNat,by omega⟩
 rw [ek,hD,wAW (x:=(k:Int) + 1) (by omega) (by omega),wAW (x:=(k:Int) + 2) (by omega) (by omega),show wAd 1 ((k:Int) + 1)=some ⟨1,(k:Int) + 1⟩ from rfl,hD,show wAd 0 ((k:Int) + 2)=some ⟨0,(k:Int) + 2⟩ from rfl,hD]
 obtain ⟨r,er⟩:∃ r:wAE,r=⟨r0.Starts ++ [gd r0.Starts 0],r0.Splits,r0.Clocks,r0.Readings⟩:=⟨_,rfl⟩
 have hn:r.Starts.length=2:=by subst er;simp [n1]
 have hs:r.Splits=r0.Splits:=by subst er;rfl
 have hr:r.Readings=[]:=by subst er;exact hq
 have C:RC r:=by
  subst er
  refine ⟨by simp only at hn;simp only;omega,C0.m,C0.c,C0.q,fun x hx=>?_,C0.sp,C0.ck,C0.rt,fun x hx=>by simp only at hx;rw [hq] at hx;cases hx⟩
  rcases nH.1 hx with h | h
  ·exact C0.st x h
  ·rw [nA] at h
   rw [h]
   exact C0.st _ (wAm (by omega))
 have st9:∀ s,s < 2->0 <= gd r.Starts s/\gd r.Starts s <= 902:=fun s hs2=>by
  have hx:gd r.Starts s ∈ r.Starts:=wAm (by omega)
  refine ⟨(C.st _ hx).1,?_⟩
  subst er
  rcases nH.1 hx with h | h
  ·exact h5 _ h
  ·rw [nA] at h
   rw [h]
   exact h5 _ (wAm (by omega))
 have S:wGh r:=⟨by omega,by rw [hs];omega,by have:=C.c;omega,by rw [hr];simp⟩
 have F:=feasU C (f:=fun _ j=>(gd r.Splits j).Lo) (fun s j _ hj=>⟨nO _,(C.sp _ (wAm hj)).1⟩) (fun x hx=>by rw [hr] at hx;cases hx)
 have c0:=wMz C
 have sa:wHf r ⟨1,(k:Int) + 1⟩=true:=by
  simp only [wHf,inB,nE,decide_eq_true_eq,hn,hs];omega
 have sb:wHf r ⟨0,(k:Int) + 2⟩=true:=by
  simp only [wHf,inB,nE,decide_eq_true_eq,hn,hs];omega
 have c:wII r [⟨1,(k:Int) + 1⟩,⟨0,(k:Int) + 2⟩]=0:=by
  unfold wII
  rw [if_pos c0,if_pos (by simp only [kI,kP,kJ,sa,sb]),if_pos ⟨_,F⟩]
 have pa:=(wGb sa).1
 have pb:=(wGb sb).1
 obtain ⟨f,hf⟩:=wOG S c0 ⟨_,F⟩ pa
 obtain ⟨g,hg⟩:=wOG S c0 ⟨_,F⟩ pb
 rw [show (⟨r0.Starts ++ [gd r0.Starts 0],r0.Splits,r0.Clocks,r0.Readings⟩:wAE)=r from er.symm,wOF S c hf hg,hD,hD]
 simp only
 rw [if_pos trivial]
 have loop:∀ (body:Nat->Unit->Option (Unit ⊕ Bool)),(∀ i,i < 2->body i ()=some (.inl ()))->wEG 0 (2:Int) body ()=some (.inl ()):=fun body h=>wDu (n:=2) (by omega) h
 rw [loop _ fun i hi=>?_,wEu,if_pos (by omega),aw]
 ·rfl
 rw [wCw (by omega) (by simp only [nD,nL];omega),hD]
 obtain ⟨y,hy,ey⟩:=(wMC S ⟨1,(k:Int) + 1⟩ ⟨0,(k:Int) + 2⟩ (gd [false,true] i)).2 c
 have Y:=hy.ok
 have A4:=wLz.1 Y
 rw [hD,hD,<- er,ey,hD]
 simp only
 rw [if_pos trivial,wNF C Y,hD,if_pos rfl]
 have tl:=wIp r y
 have i0:idx (tt r y) 0=some (gd (tt r y) 0):=wBI (k:=0) (by omega)
 have i1:idx (tt r y) 1=some (gd (tt r y) 1):=wBI (k:=1) (by omega)
 have l0:(gd (tt r y) 0).length=r.Splits.length + 1:=wGN (by omega)
 have l1:(gd (tt r y) 1).length=r.Splits.length + 1:=wGN (by omega)
 have ct:∀ l:List Int,1 <= l.length->Go.KL.cut l 1 (l.length:Int)=some (l.drop 1):=fun l hl=>by
  unfold Go.KL.cut
  rw [if_pos (by omega),List.take_of_length_le (by rw [nZ];omega)]
  rfl
 rw [i0,hD,ct _ (by omega),hD,i1,hD,ct _ (by omega),hD,hD]
 simp only
 have sp1:∀ j,j < r.Splits.length->300 <= (gd r.Splits j).Lo/\(gd r.Splits j).Lo <= (gd r.Splits j).Hi/\(gd r.Splits j).Hi <= 1190:=fun j hj=>by
  have h1:gd r.Splits j ∈ r.Splits:=wAm hj
  have h2:=(C.sp _ h1).1
  rw [hs] at h1
  have h3:=hsp _ h1
  rw [<- hs] at h3
  omega
 have inc:∀ s,s < 2->(lpT r y s).Pairwise (· < ·):=fun s hs2=>pw_of fun j hj=>by
  rw [wHr (by omega)] at hj
  rw [wLW (by omega) (by omega),wLW (by omega) (by omega)]
  have b:=A4.b s (j + 1) (by omega) (by omega)
  have c:=sp1 (j + 1) (by omega)
  rw [show ((j + 1 + 1:Nat):Int)=((j + 1:Nat):Int) + 1 by omega]
  omega
 have rg:∀ s,s < 2->∀ x ∈ lpT r y s,0 <= x/\x <= 360000:=fun s hs2 x hx=>by
  obtain ⟨j,hj,rfl⟩:=wIn hx
  rw [wHr (by omega)] at hj
  rw [wLW (by omega) (by omega)]
  have sp:=wOC Y (s:=s) (by omega) (j + 1) (by omega)
  have a:=st9 s hs2
  have b1:=wJS (f:=fun j=>(gd r.Splits j).Lo) (m:=j + 1) fun q hq=>by have:=sp1 q (by omega);omega
  have b2:=wJS (f:=fun j=>(gd r.Splits j).Hi) (m:=j + 1) fun q hq=>by have:=sp1 q (by omega);omega
  have hm':r.Splits.length <= 7:=by rw [hs];exact hm7
  omega
 have GW:wNJ (⟨(r0.Splits.length:Int),[1,2],[lpT r y 0,lpT r y 1]⟩:wAT):=by
  have each:∀ {P:List Int->Prop},P (lpT r y 0)->P (lpT r y 1)->∀ l ∈ [lpT r y 0,lpT r y 1],P l:=fun a b l hl=>by
   simp only [nm,nv,or_false] at hl
   rcases hl with rfl | rfl
   ·exact a
   ·exact b
  have q0:=wHr (y:=y) (s:=0) (r:=r) (by omega)
  have q1:=wHr (y:=y) (s:=1) (r:=r) (by omega)
  rw [hs] at q0 q1
  exact ⟨⟨by simp,rfl,each (by omega) (by omega),each (inc 0 (by omega)) (inc 1 (by omega)),each (rg 0 (by omega)) (rg 1 (by omega)),(by decide:([1,2]:List Int).Nodup)⟩,by simp only;omega,each (by simp only;omega) (by simp only;omega),fun b hb=>by
   simp only [nm,nv,or_false] at hb
   omega⟩
 obtain ⟨p,A,τ,eR,R⟩:=wOL GW.g
 rw [show (⟨(r0.Splits.length:Int),[1,2],[(gd (tt r y) 0).drop 1,(gd (tt r y) 1).drop 1]⟩:wAT)=⟨(r0.Splits.length:Int),[1,2],[lpT r y 0,lpT r y 1]⟩ from rfl,wLV GW eR,hD]
 simp only
 have ib:idx (gd (tt r y) 0) ((k:Int) + 2)=some (y ⟨0,(k:Int) + 2⟩ - y zp):=by
  rw [show (k:Int) + 2=((k + 2:Nat):Int) by omega,wBI (by rw [l0,hs];omega),wKJ (by omega) (by rw [hs];omega)]
  rfl
 have ia:idx (gd (tt r y) 1) ((k:Int) + 1)=some (y ⟨1,(k:Int) + 1⟩ - y zp):=by
  rw [show (k:Int) + 1=((k + 1:Nat):Int) by omega,wBI (by rw [l1,hs];omega),wKJ (by omega) (by rw [hs];omega)]
  rfl
 have al:=R.al
 rw [if_pos trivial,wHB (p:=fun o=>decide (o.Bib=2/\o.Done <= (k:Int))) (fun o _=>by
  unfold wAt
  by_cases h:o.Bib=2
  ·rw [if_pos h]
   exact congrArg some (decide_eq_decide.2 ⟨fun a=>⟨h,a⟩,fun a=>a.2⟩)
  ·rw [if_neg h,decide_eq_false fun a=>h a.1]) al,hD,hD,ib,hD,hD,ia,hD,wHB (f:=wAu) (p:=fun o=>decide (o.Bib=1)) (fun o _=>rfl) al,hD]
 have gp:y ⟨0,(k:Int) + 2⟩ - y ⟨1,(k:Int) + 1⟩ <= f (pt ⟨0,(k:Int) + 2⟩):=hf.gr y Y _ pb
 have ps:y ⟨0,(k:Int) + 2⟩ - y zp < y ⟨1,(k:Int) + 1⟩ - y zp->(A.any fun o=>decide (o.Bib=2/\o.Done <= (k:Int)))=true \/ (A.any fun o=>decide (o.Bib=1))=true:=fun h=>by
  have t0:gd [lpT r y 0,lpT r y 1] 0=lpT r y 0:=rfl
  have t1:gd [lpT r y 0,lpT r y 1] 1=lpT r y 1:=rfl
  rcases wOM R rfl (k:=k) (by simp only [t0];exact inc 0 (by omega)) (by simp only [t1];exact inc 1 (by omega)) (by simp only [t0];rw [wHr (by omega),hs];omega) (by simp only [t1];rw [wHr (by omega),hs];omega) (by
   simp only [t0,t1]
   rw [wLW (by omega) (by rw [hs];omega),wLW (by omega) (by rw [hs];omega)]
   rw [show ((k + 1 + 1:Nat):Int)=(k:Int) + 2 by omega,show ((k + 1:Nat):Int)=(k:Int) + 1 by omega]
   exact h) with ⟨o,ho,h1⟩ | ⟨o,ho,h1⟩
  ·exact .inl (List.any_eq_true.2 ⟨o,ho,decide_eq_true h1⟩)
  ·exact .inr (List.any_eq_true.2 ⟨o,ho,decide_eq_true h1⟩)
 generalize (A.any fun o=>decide (o.Bib=2/\o.Done <= (k:Int)))=q1 at ps
 generalize (A.any fun o=>decide (o.Bib=1))=q2 at ps
 by_cases hb:y ⟨0,(k:Int) + 2⟩ - y zp < y ⟨1,(k:Int) + 1⟩ - y zp
 ·have hd:decide (¬ (y ⟨0,(k:Int) + 2⟩ - y zp < y ⟨1,(k:Int) + 1⟩ - y zp))=false:=decide_eq_false fun h=>h hb
  have ite:∀ P:Prop,∀ [Decidable P],(if P then some (decide (¬ (y ⟨0,(k:Int) + 2⟩ - y zp < y ⟨1,(k:Int) + 1⟩ - y zp))) else some false)=some false:=fun P _=>by
   rw [hd];split <;> rfl
  rw [if_pos hb,ite]
  have:(if q1=true then some false else if q2=true then some false else some true)=some false:=by
   rcases ps hb with h | h
   ·rw [if_pos h]
   ·rw [h];cases q1 <;> rfl
  rw [this,hD]
  rfl
 ·rw [if_neg hb,if_neg (show ¬ f (pt ⟨0,(k:Int) + 2⟩) < 0 by omega),hD]
  rfl
end Go.Proofs.YtkghaiefcjgfkaaGreat
