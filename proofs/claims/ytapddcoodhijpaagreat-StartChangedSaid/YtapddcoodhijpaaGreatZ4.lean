import Derived.Test.YtapddcoodhijpaaGreatZ0
import Derived.Test.YtapddcoodhijpaaGreatZ3
import Derived.Test.YtapddcoodhijpaaGreatProg
import Derived.Lib.Overlaps
import Derived.Lib.AppendZerosOnto
import Derived.Test.YtapddcoodhijpaaGreatZ2
set_option linter.all false
open Option renaming bind_some->hH
open Nat renaming zero_add->nA,le_refl->nO,min_def->ng
open Array renaming replicate->nB
open List renaming mem_of_mem_drop->nD,getElem?_eq_getElem->nE,nodup_append->nG,take_append_drop->nH,getElem?_drop->nI,length_eq_zero_iff->nJ,getElem_map->nK,mem_singleton->nQ,append_assoc->nS,pairwise_iff_getElem->nU,length_drop->nV,any_eq_true->nW,mem_append->nX,map_append->nY,take_of_length_le->nZ,mem_of_mem_take->nb,length_append->nc,map_singleton->nf
open Bool renaming and_eq_true->nL
open Int renaming natCast_add->nM,mul_nonneg->nN,add_mul->nP,tmod_eq_emod_of_nonneg->nR,toNat_natCast->nT,mul_le_mul->na
open Option.some renaming inj->nh
namespace Go.Proofs.YtapddcoodhijpaaGreat
open Go.KL
noncomputable section
structure wAC where
 bytes:List Int
 next:Int
 state:Int
deriving DecidableEq,Inhabited,Repr
structure wAA where
 Bib:Int
 Time:Int
 Gate:Int
deriving DecidableEq,Inhabited,Repr
def wBX (p0:List Int):Option (wAC) :=
 some (⟨p0,0,17⟩:wAC)
def wAM (p0:wAC) (p1:Int):Option (Int × wAC) :=
 if p1 <= 1 then
  some (0,p0)
 else
  if (↑p0.bytes.length:Int)=0 then
   some (0,p0)
  else
   (rem p0.next (↑p0.bytes.length:Int)).bind fun x10 =>
   (idx p0.bytes x10).bind fun x13 =>
   (quo p0.next (↑p0.bytes.length:Int)).bind fun x20 =>
   (rem (wCZ ((wCZ ((wCZ ((wCZ (p0.state * 45)) + (wCZ x13))) + (wCZ (77 * (wCZ x20))))) + 1)) 65519).bind fun x32 =>
   if (wCZ x20)=0 then
    if p1 <= 256 then
     (rem (w64 (wCZ x13)) p1).bind fun x42 =>
     some (x42,(⟨p0.bytes,w64 (p0.next + 1),x32⟩:wAC))
    else
     (rem (w64 (wCZ ((wCZ (x32 * 256)) + (wCZ x13)))) p1).bind fun x46 =>
     some (x46,(⟨p0.bytes,w64 (p0.next + 1),x32⟩:wAC))
   else
    (rem (w64 (wCZ ((wCZ (x32 * 256)) + (wCZ x13)))) p1).bind fun x50 =>
    some (x50,(⟨p0.bytes,w64 (p0.next + 1),x32⟩:wAC))
def wAY (p0:wAC) (p1:Int) (p2:Int):Option (Int × wAC) :=
 (wAM p0 (w64 ((w64 (p2 - p1)) + 1))).bind fun (x2,x3) =>
 some (w64 (p1 + x2),x3)
def wAg (p0:wAC) (p1:Int):Option (Bool × wAC) :=
 (wAM p0 p1).bind fun (x2,x3) =>
 some (decide (x2=0),x3)
def wAq (p0:wAC) (p1:Int):Option ((List wAA) × wAC) :=
 (wAM p0 100).bind fun (x2,x3) =>
 (wAM x3 (w64 (p1 + 1))).bind fun (x16,x17) =>
 (wEz 0 x16 (fun k71 (l61,x64,x65,l66,x70) =>
  (wAY (⟨l61,x64,x65⟩:wAC) 1 5).bind fun (x100,x101) =>
  (wAM x101 5).bind fun (x114,x115) =>
  (app 24 l66 [(⟨w64 ((w64 (5 * (↑k71:Int))) + x100),x70,x114⟩:wAA)]).bind fun x133 =>
  (wAg x115 4).bind fun (x141,x142) =>
  if x141=true then
   some (x142.bytes,x142.next,x142.state,x133,x70)
  else
   (wAM x142 40).bind fun (x168,x169) =>
   some (x169.bytes,x169.next,x169.state,x133,w64 (x70 + x168))) (x17.bytes,x17.next,x17.state,[],x2)).bind fun (y76,y77,y78,y79,y80) =>
 some (y79,(⟨y76,y77,y78⟩:wAC))
def wAc (p0:Int) (p1:Int):Option (Int) :=
 if p1 <= 0 then
  some 0
 else
  (rem p0 p1).bind fun x4 =>
  (rem (w64 (x4 + p1)) p1).bind fun x7 =>
  some x7
def wAn (p0:List wAA) (p1:(wAA->Option Bool)):Option (Bool) :=
 jn (wGD 0 (↑p0.length:Int) (fun k2 _ =>
  (idx p0 (↑k2:Int)).bind fun x22 =>
  (p1 x22).bind fun x37 =>
  if x37=true then
   some (.inl ())
  else
   esc (some false)) ()) fun _ =>
 some true
def wBQ (p0:Int) (p1:Int) (p2:Int):Option (Bool) :=
 if p1 <= p0 then
  some (decide (p0 <= p2))
 else
  some false
def wAl (p0:wAA):Option (Bool) :=
 (wBQ p0.Bib 1 999).bind fun x5 =>
 if x5=true then
  (wBQ p0.Time 0 360000).bind fun x17 =>
  if x17=true then
   (wBQ p0.Gate 0 60).bind fun x29 =>
   some x29
  else
   some false
 else
  some false
def wBY (p0:List Int):Option (Bool) :=
 jn (wGD 0 (↑p0.length:Int) (fun k20 l17 =>
  (idx p0 (↑k20:Int)).bind fun x41 =>
  if (wCx l17 x41 false)=true then
   esc (some true)
  else
   some (.inl (mput l17 x41 true))) ([]:List (Int × Bool))) fun y68 =>
 some false
def wBP (p0:Int):Option (Bool) :=
 some (decide (¬ (p0=p0)))
def wBL (p0:Int) (p1:Int):Option (Bool) :=
 (wBP p0).bind fun x1 =>
 if x1=true then
  (wBP p1).bind fun x13 =>
  if x13=true then
   some (decide (p0 < p1))
  else
   some true
 else
  some (decide (p0 < p1))
def wAi (p0:List Int):Option (Bool) :=
 iter (fun x4 =>
  if 0 < x4 then
   (idx p0 x4).bind fun x21 =>
   (idx p0 (w64 (x4 - 1))).bind fun x29 =>
   (wBL x21 x29).bind fun x36 =>
   if x36=true then
    esc (some false)
   else
    some (.inl (w64 (x4 - 1)))
  else
   esc (some true)) big (w64 ((↑p0.length:Int) - 1))
def wAp (p0:List wAA):Option (Int) :=
 (wEz 0 (↑p0.length:Int) (fun k33 (l25,l29) =>
  ((idx p0 (↑k33:Int)).bind fun x70 =>
  (app 8 l25 [x70.Bib]).bind fun x90 =>
  (app 8 l29 [x70.Time]).bind fun x103 =>
  some (x90,x103)).bind fun (l61,l64) =>
  some (l61,l64)) ([],[])).bind fun (y38,y39) =>
 if 60 < (↑p0.length:Int) then
  some 2
 else
  (wAn p0 wAl).bind fun x301 =>
  if x301=true then
   (wBY y38).bind fun x318 =>
   if x318=true then
    some 5
   else
    (wAi y39).bind fun x336 =>
    if x336=true then
     some 0
    else
     some 4
  else
   some 3
def wBF (p0:wAA) (p1:Int):Option (Bool) :=
 some (decide (p0.Bib=p1))
def wAD (p0:List wAA) (p1:(wAA->Option Bool)):Option (Int) :=
 jn (wGD 0 (↑p0.length:Int) (fun k2 _ =>
  (idx p0 (↑k2:Int)).bind fun x22 =>
  (p1 x22).bind fun x30 =>
  if x30=true then
   esc (some (↑k2:Int))
  else
   some (.inl ())) ()) fun _ =>
 some (-1)
def wAK (p0:List wAA) (p1:(wAA->Option Bool)):Option (Bool) :=
 (wAD p0 p1).bind fun x1 =>
 some (decide (0 <= x1))
def wAj (p0:wAA) (p1:Int):Option (Bool) :=
 some (decide (p1 < p0.Time))
def wAE (p0:List wAA):Option ((List wAA)) :=
 (app 24 ([]:List wAA) p0).bind fun x11 =>
 some x11
def wAG (p0:List wAA) (p1:Int) (p2:List wAA):Option (List wAA):=insO p0 p1 p2
def wBB (p0:List wAA) (p1:Int) (p2:Int):Option ((List wAA) × Int) :=
 (wAp p0).bind fun x11 =>
 if x11=0 then
  (wBQ p1 1 999).bind fun x24 =>
  if x24=true then
   (wBQ p2 1 360000).bind fun x36 =>
   if x36=true then
    (wAK p0 (fun x=>wBF x p1)).bind fun x54 =>
    if x54=true then
     some ([],5)
    else
     if (↑p0.length:Int)=60 then
      some ([],2)
     else
      if 0 < (↑p0.length:Int) then
       (idx p0 0).bind fun x83 =>
       (iter (fun x101 =>
        jn (wGD 0 (↑p0.length:Int) (fun k117 _ =>
         (idx p0 (↑k117:Int)).bind fun x140 =>
         if x140.Time=x101 then
          esc (some (.inl (w64 (x101 + p2))))
         else
          some (.inl ())) ()) fun _ =>
        esc (some x101)) big x83.Time).bind fun x94 =>
       if 360000 < x94 then
        some ([],10)
       else
        (wAD p0 (fun x=>wAj x x94)).bind fun x206 =>
        if x206 < 0 then
         ((wAE p0).bind fun x230 =>
         (wAG x230 (↑p0.length:Int) [(⟨p1,x94,0⟩:wAA)]).bind fun x248 =>
         some x248).bind fun l218 =>
         some (l218,0)
        else
         ((wAE p0).bind fun x354 =>
         (wAG x354 x206 [(⟨p1,x94,0⟩:wAA)]).bind fun x372 =>
         some x372).bind fun l342 =>
         some (l342,0)
      else
       (iter (fun x473 =>
        jn (wGD 0 (↑p0.length:Int) (fun k489 _ =>
         (idx p0 (↑k489:Int)).bind fun x512 =>
         if x512.Time=x473 then
          esc (some (.inl (w64 (x473 + p2))))
         else
          some (.inl ())) ()) fun _ =>
        esc (some x473)) big 0).bind fun x466 =>
       if 360000 < x466 then
        some ([],10)
       else
        (wAD p0 (fun x=>wAj x x466)).bind fun x580 =>
        if x580 < 0 then
         ((wAE p0).bind fun x604 =>
         (wAG x604 (↑p0.length:Int) [(⟨p1,x466,0⟩:wAA)]).bind fun x622 =>
         some x622).bind fun l592 =>
         some (l592,0)
        else
         ((wAE p0).bind fun x728 =>
         (wAG x728 x580 [(⟨p1,x466,0⟩:wAA)]).bind fun x746 =>
         some x746).bind fun l716 =>
         some (l716,0)
   else
    some ([],3)
  else
   some ([],3)
 else
  some ([],x11)
def wAs (p0:wAA) (p1:Int):Option (Bool) :=
 some (decide (p0.Bib=p1))
def wAL (p0:List wAA) (p1:Int) (p2:Int):Option (List wAA):=delO p0 p1 p2
def wAX (p0:List wAA) (p1:Int):Option ((List wAA) × Int) :=
 (wAp p0).bind fun x11 =>
 if x11=0 then
  (wAD p0 (fun x=>wAs x p1)).bind fun x26 =>
  if x26 < 0 then
   some ([],1)
  else
   (wAE p0).bind fun x42 =>
   (wAL x42 x26 (w64 (x26 + 1))).bind fun x55 =>
   some (x55,0)
 else
  some ([],x11)
def wAT (p0:wAA) (p1:Int):Option (Bool) :=
 some (decide (p0.Bib=p1))
def wAO (p0:List wAA) (p1:List wAA):Option (Bool) :=
 if (↑p0.length:Int)=(↑p1.length:Int) then
  jn (wGD 0 (↑p0.length:Int) (fun k4 _ =>
   (idx p0 (↑k4:Int)).bind fun x26 =>
   (idx p1 (↑k4:Int)).bind fun x34 =>
   if x26=x34 then
    some (.inl ())
   else
    esc (some false)) ()) fun _ =>
  some true
 else
  some false
def wAR (p0:wAA) (p1:Int):Option (Bool) :=
 some (decide (p0.Time=p1))
def wAN (p0:Int) (p1:List wAA):Option (Bool) :=
 (wAK p1 (fun x=>wAR x p0)).bind fun x13 =>
 some x13
def wAe:Option Bool:=some true
def wAQ (p0:List wAA):Option ((List wAA)) :=
 (app 24 ([]:List wAA) p0).bind fun x4 =>
 some x4
def wAo (p0:List Int) (p1:Int) (p2:Int) (p3:Int):Option (Bool) :=
 (wBX p0).bind fun x1 =>
 (wAq x1 24).bind fun (x16,x17) =>
 (wAc p2 50).bind fun x40 =>
 (wAc p3 200).bind fun x50 =>
 (wBB x16 (w64 (x50 + 300)) (w64 (x40 + 1))).bind fun (x72,x73) =>
 if x73=0 then
  if (↑x72.length:Int)=(w64 ((↑x16.length:Int) + 1)) then
   (wAp x72).bind fun x95 =>
   if x95=0 then
    (wAX x72 (w64 (x50 + 300))).bind fun (x116,x117) =>
    (wAD x72 (fun x=>wAT x (w64 (x50 + 300)))).bind fun x138 =>
    if x117=0 then
     (wAO x116 x16).bind fun x162 =>
     if x162=true then
      if x138 < 0 then
       some false
      else
       (idx x72 x138).bind fun x177 =>
       if x177.Gate=0 then
        if 0 < (↑x16.length:Int) then
         (idx x16 0).bind fun x191 =>
         if x177.Time < x191.Time then
          some false
         else
          (rem (w64 (x177.Time - x191.Time)) (w64 (x40 + 1))).bind fun x226 =>
          if x226=0 then
           (wAN x177.Time x16).bind fun x236 =>
           if x236=true then
            some false
           else
            iter (fun x252 =>
             if x252 < x177.Time then
              (wAN x252 x16).bind fun x283 =>
              if x283=true then
               some (.inl (w64 (x252 + (w64 (x40 + 1)))))
              else
               esc (some false)
             else
              esc ((wAX x16 (w64 (x50 + 300))).bind fun (x314,x315) =>
              (wBB x72 (w64 (x50 + 300)) (w64 (x40 + 1))).bind fun (x330,x331) =>
              if x315=1 then
               if x331=5 then
                if (↑x16.length:Int)=0 then
                 (wAe).bind fun x352 =>
                 some x352
                else
                 (wAc p1 (↑x16.length:Int)).bind fun x363 =>
                 (idx x16 x363).bind fun x381 =>
                 (wAX x16 x381.Bib).bind fun (x391,x392) =>
                 if x392=0 then
                  (wAQ x16).bind fun x409 =>
                  (wAL x409 x363 (w64 (x363 + 1))).bind fun x422 =>
                  (wAO x391 x422).bind fun x446 =>
                  if x446=true then
                   (wAe).bind fun x458 =>
                   some x458
                  else
                   some false
                 else
                  some false
               else
                some false
              else
               some false)) big x191.Time
          else
           some false
        else
         if x177.Time < 0 then
          some false
         else
          (rem (w64 (x177.Time - 0)) (w64 (x40 + 1))).bind fun x501 =>
          if x501=0 then
           (wAN x177.Time x16).bind fun x512 =>
           if x512=true then
            some false
           else
            iter (fun x528 =>
             if x528 < x177.Time then
              (wAN x528 x16).bind fun x559 =>
              if x559=true then
               some (.inl (w64 (x528 + (w64 (x40 + 1)))))
              else
               esc (some false)
             else
              esc ((wAX x16 (w64 (x50 + 300))).bind fun (x590,x591) =>
              (wBB x72 (w64 (x50 + 300)) (w64 (x40 + 1))).bind fun (x606,x607) =>
              if x591=1 then
               if x607=5 then
                if (↑x16.length:Int)=0 then
                 (wAe).bind fun x628 =>
                 some x628
                else
                 (wAc p1 (↑x16.length:Int)).bind fun x639 =>
                 (idx x16 x639).bind fun x657 =>
                 (wAX x16 x657.Bib).bind fun (x667,x668) =>
                 if x668=0 then
                  (wAQ x16).bind fun x685 =>
                  (wAL x685 x639 (w64 (x639 + 1))).bind fun x698 =>
                  (wAO x667 x698).bind fun x722 =>
                  if x722=true then
                   (wAe).bind fun x734 =>
                   some x734
                  else
                   some false
                 else
                  some false
               else
                some false
              else
               some false)) big 0
          else
           some false
       else
        some false
     else
      some false
    else
     some false
   else
    some false
  else
   some false
 else
  some false
end
end Go.Proofs.YtapddcoodhijpaaGreat
namespace Go.Proofs
open Go.RowKit Go.Lib
set_option maxHeartbeats 4000000 in
set_option maxRecDepth 100000 in
theorem delCalls29 (b c n i j:Nat) (cs:List Value) (w:World) (hcs:cs.length=n * 3) (h1:∀ v ∈ cs,v.oneCell'=true)
  (hcell:∀ k v,cs[k]?=some v->w.cell? ⟨b,k,none⟩=some v) (hfz:∀ k,k < n * 3->w.frozen? ⟨b,k,none⟩=false) (hn:n <= c) (_:c <= 9223372036854775807) (hij:i < j) (hj:j <= n) :
  Calls Tryz.prog 29 #[.slice (some ⟨b,0,none⟩) n c,.int .i64 i,.int .i64 j] w fun e w'=>e=.returned (.slice (some ⟨b,0,none⟩) (n - (j - i)) c) /\
   w'=(w.drew.setCells b (i * 3) (cs.drop (j * 3))).setCells b ((n - (j - i)) * 3) (List.replicate ((j - i) * 3) (.int .i64 0)):=by
 obtain ⟨news,hnews⟩:∃ news,news=cs.drop (j * 3):=⟨_,rfl⟩
 have hlen:news.length=(n - j) * 3:=by rw [hnews,nV,hcs];omega
 obtain ⟨A,hA,hsrc⟩:∃ A:Addr,(if c=j then some (⟨b,0,none⟩:Addr) else some ⟨b,j * 3,none⟩)=some A/\Hid (∀ t u,news[t]?=some u->w.drew.cell? (A.add t)=some u):=by
  by_cases h:c=j
  ·refine ⟨⟨b,0,none⟩,by simp [h],fun t u hu=>?_⟩
   have h0:news.length=0:=by rw [hlen];omega
   rw [nJ.1 h0] at hu
   simp at hu
  ·refine ⟨⟨b,j * 3,none⟩,by simp [h],fun t u hu=>?_⟩
   rw [hnews,nI] at hu
   rw [Addr.add_lit]
   exact hcell _ _ hu
 have s1:Hid (news.length=(n - j) * 3):=hlen
 have s2:Hid (∀ u ∈ news,u.oneCell'=true):=by
  intro u hu
  rw [hnews] at hu
  exact h1 u (nD hu)
 have hsome:∀ k,k < n * 3->(w.cell? ⟨b,k,none⟩).isSome=true:=fun k hk=>by
  rw [hcell k _ (nE (by omega))];rfl
 have s3:Hid (∀ t,t < news.length->(w.drew.cell? ⟨b,0 + i * 3 + t,none⟩).isSome=true/\w.drew.frozen? ⟨b,0 + i * 3 + t,none⟩=false):=by
  intro t ht
  rw [hlen] at ht
  exact ⟨hsome _ (by omega),hfz _ (by omega)⟩
 obtain ⟨W1,hW1⟩:∃ W1,W1=w.drew.setCells b (i * 3) news:=⟨_,rfl⟩
 have hcl:∀ ty,(Builtin.clear_ #[23] ty #[.slice (some ⟨b,(i + (n - j)) * 3,none⟩) (n - (i + (n - j))) (c - (i + (n - j)))]).run Tryz.prog W1=.ok (.tuple #[]) (W1.setCells b ((i + (n - j)) * 3) (List.replicate ((n - (i + (n - j))) * 3) (.int .i64 0))) :=
  fun ty=>Go.KL.run_clear_sliceK W1 _ _ ty _ (.int .i64 0) 3 Tryz.underlying23 Tryz.zeroValue30 rfl (by omega) rfl b _ _ _ (by omega) (fun t ht=>by
   rw [hW1]
   exact Go.KL.isSome_setCells' b news (i * 3) w.drew (fun q hq=>hsome _ (by rw [hlen] at hq;omega)) _ (hsome ((i + (n - j)) * 3 + t) (by omega))) (fun t ht=>by rw [hW1,World.frozen?_setCells];exact hfz ((i + (n - j)) * 3 + t) (by omega))
 have hW:Hid (W1=w.drew.setCells b (0 + i * 3) news):=by rw [nA];exact hW1
 have hic:i <= c:=by omega
 have hjc:j <= c:=by omega
 have ty30:=Tryz.typeInfo30
 have mixed:Tryz.prog.follows .mixedOrders=true:=rfl
 have hnews':Hid (news=cs.drop (j * 3)):=hnews
 clear hW1 hsome hlen hnews
 go_enter Tryz.func29,Tryz.ntmps29
 go_wp2_with fail
 go_region_law_o (refine step_append_room rfl (.tmp 22) (.tmp 25) 23 rfl 30 _ 3 Tryz.underlying23 Tryz.type30 rfl b 0 i c (by simp [Act.eval,Act.put]) A (n - j) (c - j) news (by simp [Act.eval,Act.put]) s1.out hsrc.out s2.out (by omega) s3.out ?_;rw [<- hW.out])
 go_wp2
 go_ret
 have e1:n - (j - i)=i + (n - j):=by omega
 have e2:n - (i + (n - j))=j - i:=by omega
 have hw:=hW.out
 rw [nA,hnews'.out] at hw
 refine ⟨by rw [e1];rfl,?_⟩
 rw [e1,hw,e2]
set_option maxHeartbeats 4000000 in
set_option maxRecDepth 100000 in
theorem insShift71 (b n c i vb vc:Nat) (cs vs:List Value) (w:World) (hcs:cs.length=n * 3) (hvs:vs.length=1 * 3) (h1:∀ v ∈ cs,v.oneCell'=true) (h2:∀ v ∈ vs,v.oneCell'=true)
  (hcell:∀ k v,cs[k]?=some v->w.cell? ⟨b,k,none⟩=some v) (hsome:∀ k,k < c * 3->(w.cell? ⟨b,k,none⟩).isSome=true) (hfz:∀ k,w.frozen? ⟨b,k,none⟩=false)
  (hvcell:∀ k v,vs[k]?=some v->w.cell? ⟨vb,k,none⟩=some v) (hvfz:∀ k,w.frozen? ⟨vb,k,none⟩=false) (hvb:vb ≠ b)
  (tA tB:TypeId) (kA kB:Nat) (hsa:w.shape? vb=some (tA,kA)) (hsb:w.shape? b=some (tB,kB)) (hkB:kB ≠ 0)
  (hi:i < n) (hroom:n + 1 <= c) (hm:c <= 9223372036854775807) :
  Calls Tryz.prog 71 #[.slice (some ⟨b,0,none⟩) n c,.int .i64 i,.slice (some ⟨vb,0,none⟩) 1 vc] w fun e w'=>e=.returned (.slice (some ⟨b,0,none⟩) (n + 1) c) /\
   w'=(w.drew.setCells b ((i + 1) * 3) (cs.drop (i * 3))).setCells b (i * 3) vs:=by
 have uS:=run_underlying Tryz.underlying23
 have hz2:¬ ((i:Int)=(n:Int)):=by omega
 have hov:∀ lb cb,(callFunc 129 #[.slice (some ⟨vb,0,none⟩) 1 vc,.slice (some ⟨b,(i + 1) * 3,none⟩) lb cb]).run Tryz.prog w=.ok (.value (.bool false)) w:=fun lb cb=>by
  rw [run_callFunc_extern Tryz.func129 (by kernel_rfl) (by kernel_rfl) (by kernel_rfl) (e:=Extern.SlicesOverlaps.overlaps #[23,23] #[4]) (by kernel_rfl),
   Lib.run_overlaps_apart w 23 4 30 Tryz.underlying23 3 Tryz.sizeOf30 ⟨vb,0,none⟩ ⟨b,(i + 1) * 3,none⟩ 1 vc lb cb hvb tA tB kA kB hsa hsb hkB (hvfz _) (hvfz _)]
  rfl
 have hdl:(cs.drop (i * 3)).length=(n - i) * 3:=by rw [nV,hcs];omega
 have mixed:Tryz.prog.follows .mixedOrders=true:=rfl
 have hw1:IntKind.i64.wrap ((i:Int) + 1)=(i:Int) + 1:=by rw [IntKind.wrap_i64];omega
 have hw2:IntKind.i64.wrap ((n:Int) + 1)=(n:Int) + 1:=by rw [IntKind.wrap_i64];omega
 have hb1:(0:Int) <= (i:Int) + 1:=by omega
 have hin:i <= n:=by omega
 have htn:((i:Int) + 1).toNat=i + 1:=by omega
 have hb2:¬ (c=i + 1):=by omega
 have hb3:(i:Int) <= (n:Int) + 1:=by omega
 have hb4:¬ (c=i):=by omega
 have hcp1:∀ ty dc sc,(Builtin.copy_ #[23,23] ty #[.slice (some ⟨b,(i + 1) * 3,none⟩) (n - i) dc,.slice (some ⟨b,i * 3,none⟩) (n + 1 - i) sc]).run Tryz.prog w.drew=.ok (goInt ((n - i:Nat):Int)) (w.drew.setCells b ((i + 1) * 3) (cs.drop (i * 3))):=fun ty dc sc =>
  Go.KL.run_copy_cellsK w.drew _ _ ty 30 3 b ((i + 1) * 3) (n - i) dc (n - i) ⟨b,i * 3,none⟩ (n + 1 - i) sc (cs.drop (i * 3)) Tryz.underlying23 Tryz.sizeOf30 (by simp only [ng];split <;> omega) hdl
   (fun j v hj=>by rw [Addr.add_lit];exact hcell (i * 3 + j) v (by rwa [nI] at hj))
   (fun j hj=>hsome _ (by omega)) (fun j hj=>hfz _) (fun v hv=>h1 v (nD hv))
 obtain ⟨W1,hW1⟩:∃ W1,W1=w.drew.setCells b ((i + 1) * 3) (cs.drop (i * 3)):=⟨_,rfl⟩
 have hsp1:∀ k,k < c * 3->(W1.cell? ⟨b,k,none⟩).isSome=true:=fun k hk=>by
  rw [hW1]
  exact Go.KL.isSome_setCells' b (cs.drop (i * 3)) ((i + 1) * 3) w.drew (fun j hj=>hsome _ (by omega)) _ (hsome _ hk)
 have hcp2:∀ (W:World),(∀ x,W.cell? x=W1.cell? x)->(∀ x,W.frozen? x=W1.frozen? x)->∀ ty dc,(Builtin.copy_ #[23,23] ty #[.slice (some ⟨b,i * 3,none⟩) (n + 1 - i) dc,.slice (some ⟨vb,0,none⟩) 1 vc]).run Tryz.prog W=.ok (goInt 1) (W.setCells b (i * 3) vs):=fun W hWc hWf ty dc =>
  Go.KL.run_copy_cellsK W _ _ ty 30 3 b (i * 3) (n + 1 - i) dc 1 ⟨vb,0,none⟩ 1 vc vs Tryz.underlying23 Tryz.sizeOf30 (by simp only [ng];split <;> omega) hvs
   (fun j v hj=>by
    rw [Addr.add_lit,hWc,hW1,World.cell?_setCells_out b _ _ _ _ (fun h _=>absurd h hvb),nA]
    exact hvcell j v hj)
   (fun j hj=>by rw [hWc];exact hsp1 _ (by omega)) (fun j hj=>by rw [hWf,hW1,World.frozen?_setCells];exact hfz _) h2
 rw [<- hW1] at hcp1
 clear hsp1 hdl hcell hsome hfz hvcell hvfz hsa hsb
 go_enter Tryz.func71,Tryz.ntmps71
 go_wp2_with (simp only [hov])
 go_region_law_o (refine wCt rfl _ _ 23 23 rfl _ _ (by simp [Act.eval,Act.put]) (by simp [Act.eval,Act.put]) (hcp1 _ _ _) ?_)
 go_wp2_with (at_builtin;refine wpList_copy_runI _ rfl _ _ 23 23 rfl _ _ rfl rfl (hcp2 _ (fun _=>rfl) (fun _=>rfl) _ _) ?_)
 go_ret
 first | exact ⟨rfl,rfl⟩ | exact ⟨rfl,by rw [hW1]⟩
set_option maxHeartbeats 4000000 in
set_option maxRecDepth 100000 in
theorem insEndRoom71 (b n c vb vc:Nat) (vs:List Value) (w:World) (hvs:vs.length=1 * 3) (h2:∀ v ∈ vs,v.oneCell'=true)
  (hsome:∀ k,k < c * 3->(w.cell? ⟨b,k,none⟩).isSome=true) (hfz:∀ k,w.frozen? ⟨b,k,none⟩=false)
  (hvcell:∀ k v,vs[k]?=some v->w.cell? ⟨vb,k,none⟩=some v) (hroom:n + 1 <= c) (hm:c <= 9223372036854775807) :
  Calls Tryz.prog 71 #[.slice (some ⟨b,0,none⟩) n c,.int .i64 n,.slice (some ⟨vb,0,none⟩) 1 vc] w fun e w'=>e=.returned (.slice (some ⟨b,0,none⟩) (n + 1) c) /\
   w'=w.setCells b (n * 3) vs:=by
 have uS:=run_underlying Tryz.underlying23
 have mixed:Tryz.prog.follows .mixedOrders=true:=rfl
 have hsrc:Src Tryz.prog 3 23 (.slice (some ⟨vb,0,none⟩) 1 vc) 1 vs w:=Src.ofSlice w Tryz.underlying23 ⟨vb,0,none⟩ 1 vc vs hvs (fun j u hj=>by rw [Addr.add_lit,nA];exact hvcell j u hj) h2
 have hrun:∀ ty,(Builtin.append_ #[23,23] ty #[.slice (some ⟨b,0,none⟩) n c,.slice (some ⟨vb,0,none⟩) 1 vc]).run Tryz.prog w=_:=fun ty =>
  run_append_room_src w 23 23 ty 30 Tryz.t30 Tryz.underlying23 Tryz.type30 b 0 n c _ 1 vs hsrc hroom (fun j hj=>hsome _ (by show 0 + n * 3 + j < c * 3;omega)) (fun j hj=>hfz _)
 clear hsome hfz hvcell
 go_enter Tryz.func71,Tryz.ntmps71
 go_wp2_with (at_builtin;refine Lib.wpList_append_run _ rfl _ _ _ _ rfl _ _ rfl rfl _ _ (hrun _) ?_)
 go_ret
 exact ⟨rfl,rfl⟩
set_option maxHeartbeats 4000000 in
set_option maxRecDepth 100000 in
theorem insEndGrow71 (base:Option Addr) (n c vb vc:Nat) (cs vs:List Value) (w:World) (hcs:cs.length=n * 3) (hvs:vs.length=1 * 3) (h2:∀ v ∈ vs,v.oneCell'=true)
  (hnil:base=none->n=0) (hbase:∀ a,base=some a->∃ b,a=⟨b,0,none⟩/\∀ k v,cs[k]?=some v->w.cell? ⟨b,k,none⟩=some v)
  (hvcell:∀ k v,vs[k]?=some v->w.cell? ⟨vb,k,none⟩=some v) (hnc:n <= c) (hroom:c < n + 1) (hbig:(n + 1) * 24 <= 140737488355328) :
  Calls Tryz.prog 71 #[.slice base n c,.int .i64 n,.slice (some ⟨vb,0,none⟩) 1 vc] w fun e w'=>e=.returned (.slice (some ⟨w.heap.size,0,none⟩) (n + 1) (grownCap w (n + 1) c 30)) /\
   w'=w.drew.alloc (.cells ((cs ++ vs).toArray ++ Builtin.zeroCells (nB 3 (.int .i64 0)) (grownCap w (n + 1) c 30 - (n + 1))) 30):=by
 have uS:=run_underlying Tryz.underlying23
 have mixed:Tryz.prog.follows .mixedOrders=true:=rfl
 have hsrc:Src Tryz.prog 3 23 (.slice (some ⟨vb,0,none⟩) 1 vc) 1 vs w:=Src.ofSlice w Tryz.underlying23 ⟨vb,0,none⟩ 1 vc vs hvs (fun j u hj=>by rw [Addr.add_lit,nA];exact hvcell j u hj) h2
 have hold:(Builtin.firstCells 3 n (.slice base n c)).run Tryz.prog w.drew=.ok cs.toArray w.drew:=by
  cases base with
  | none =>
   have h0:=hnil rfl
   subst h0
   have h1:cs=[]:=nJ.1 (by omega)
   rw [h1]
   exact run_firstCells_none w.drew 3 0 0 c
  | some a =>
   obtain ⟨b,rfl,hc⟩:=hbase a rfl
   exact run_firstCells_some w.drew 3 n _ n c cs hcs (fun j v hj=>by rw [Addr.add_lit,nA];exact hc j v hj)
 have hrun:∀ ty,(Builtin.append_ #[23,23] ty #[.slice base n c,.slice (some ⟨vb,0,none⟩) 1 vc]).run Tryz.prog w=_:=fun ty =>
  run_append_grow_src w 23 23 ty 30 Tryz.t30 _ Tryz.underlying23 Tryz.type30 rfl base n c cs hold _ 1 vs hsrc hroom (by omega) (growslice_fits (bytes:=24) hroom hbig)
 clear hvcell hbase
 go_enter Tryz.func71,Tryz.ntmps71
 cases base with
 | none =>
  have h0:=hnil rfl
  subst h0
  go_wp2_with (at_builtin;refine Lib.wpList_append_run _ rfl _ _ _ _ rfl _ _ rfl rfl _ _ (hrun _) ?_)
  go_ret
  exact ⟨rfl,rfl⟩
 | some a =>
  obtain ⟨ab,ao,asp⟩:=a
  go_wp2_with (at_builtin;refine Lib.wpList_append_run _ rfl _ _ _ _ rfl _ _ rfl rfl _ _ (hrun _) ?_)
  all_goals (go_ret;exact ⟨rfl,rfl⟩)
set_option maxHeartbeats 4000000 in
set_option maxRecDepth 100000 in
theorem insGrow71 (b n c i vb vc:Nat) (cs vs:List Value) (w:World) (hcs:cs.length=n * 3) (hvs:vs.length=1 * 3) (h1:∀ v ∈ cs,v.oneCell'=true) (h2:∀ v ∈ vs,v.oneCell'=true)
  (hcell:∀ k v,cs[k]?=some v->w.cell? ⟨b,k,none⟩=some v) (hvcell:∀ k v,vs[k]?=some v->w.cell? ⟨vb,k,none⟩=some v)
  (hi:i < n) (hnc:n <= c) (hroom:c < n + 1) (hbig:(n + 1) * 24 <= 140737488355328) :
  Calls Tryz.prog 71 #[.slice (some ⟨b,0,none⟩) n c,.int .i64 i,.slice (some ⟨vb,0,none⟩) 1 vc] w fun e w'=>e=.returned (.slice (some ⟨w.heap.size,0,none⟩) (n + 1) (grownCap w (n + 1) c 30)) /\
   w'=(((w.alloc (.cells ((cs.take (i * 3)).toArray ++ Builtin.zeroCells (nB 3 (.int .i64 0)) (n + 1 - i) ++ Builtin.zeroCells (nB 3 (.int .i64 0)) (grownCap w (n + 1) c 30 - (n + 1))) 30)).drew.setCells w.heap.size (i * 3) vs).drew).setCells w.heap.size ((i + 1) * 3) (cs.drop (i * 3)):=by
 have uS:=run_underlying Tryz.underlying23
 have mixed:Tryz.prog.follows .mixedOrders=true:=rfl
 have hz2:¬ ((i:Int)=(n:Int)):=by omega
 have hz3:(c:Int) < (n:Int) + 1:=by omega
 have hbw:b < w.heap.size:=block_lt_of_cell (hcell 0 _ (nE (by omega)))
 have hvw:vb < w.heap.size:=block_lt_of_cell (hvcell 0 _ (nE (by omega)))
 have hkk:(n:Int) + 1 - (i:Int)=((n + 1 - i:Nat):Int):=by omega
 have hik:i + (n + 1 - i)=n + 1:=by omega
 have htl:(cs.take (i * 3)).length=i * 3:=by rw [List.length_take,hcs];omega
 have hold:(Builtin.firstCells 3 i (.slice (some ⟨b,0,none⟩) i c)).run Tryz.prog w.drew=.ok (cs.take (i * 3)).toArray w.drew :=
  run_firstCells_some w.drew 3 i ⟨b,0,none⟩ i c (cs.take (i * 3)) htl (fun j v hj=>by
   rw [Addr.add_lit,nA]
   rw [List.getElem?_take] at hj
   split at hj
   ·exact hcell j v hj
   ·cases hj)
 have hrz:∀ ty,(Builtin.append_ #[23,3] ty #[.slice (some ⟨b,0,none⟩) i c,.int .i64 ((n:Int) + 1 - (i:Int))]).run Tryz.prog w =
   .ok (.slice (some ⟨w.heap.size,0,none⟩) (n + 1) (grownCap w (n + 1) c 30)) (w.drew.alloc (.cells ((cs.take (i * 3)).toArray ++ Builtin.zeroCells (nB 3 (.int .i64 0)) (n + 1 - i) ++ Builtin.zeroCells (nB 3 (.int .i64 0)) (grownCap w (n + 1) c 30 - (n + 1))) 30)):=fun ty=>by
  have h:=Lib.run_append_grow_zeros w 23 3 ty 30 Tryz.t30 _ .i64 .i64 Tryz.underlying23 Tryz.underlying3 Tryz.type30 rfl (some ⟨b,0,none⟩) i c (cs.take (i * 3)) hold (n + 1 - i) (by omega) (by show 0 < 3;omega) (by omega) (by omega) (by show (n + 1 - i) * 24 <= _;omega) (by rw [hik];exact growslice_fits (bytes:=24) hroom hbig)
  rw [hik] at h
  rw [hkk]
  exact h
 obtain ⟨G,hG⟩:∃ G,G=grownCap w (n + 1) c 30:=⟨_,rfl⟩
 obtain ⟨ROW,hROW⟩:∃ ROW:Array Value,ROW=(cs.take (i * 3)).toArray ++ Builtin.zeroCells (nB 3 (.int .i64 0)) (n + 1 - i) ++ Builtin.zeroCells (nB 3 (.int .i64 0)) (G - (n + 1)):=⟨_,rfl⟩
 rw [<- hG] at hrz ⊢
 rw [<- hROW] at hrz ⊢
 have hRl:(n + 1) * 3 <= ROW.size:=by
  rw [hROW,Go.KL.zeroCellsK _ _ _ (by omega),Go.KL.zeroCellsK _ _ _ (by omega)]
  simp [htl]
  omega
 obtain ⟨W1,hW1⟩:∃ W1,W1=w.drew.alloc (.cells ROW 30):=⟨_,rfl⟩
 rw [<- hW1] at hrz
 have hN:∀ j,j < (n + 1) * 3->(W1.cell? ⟨w.heap.size,j,none⟩).isSome=true:=fun j hj=>by
  rw [hW1,World.cell?_alloc_at (w:=w.drew) ROW _ w.heap.size j rfl,Array.getElem?_eq_getElem (by omega)];rfl
 have hNf:∀ j,W1.frozen? ⟨w.heap.size,j,none⟩=false:=fun j=>by rw [hW1];exact World.frozen?_alloc_at (w:=w.drew) ROW _ w.heap.size j rfl
 have hOb:∀ j v,w.cell? ⟨b,j,none⟩=some v->W1.cell? ⟨b,j,none⟩=some v:=fun j v h=>by rw [hW1,World.cell?_alloc_past (w:=w.drew) _ b j hbw];exact h
 have hOv:∀ j v,w.cell? ⟨vb,j,none⟩=some v->W1.cell? ⟨vb,j,none⟩=some v:=fun j v h=>by rw [hW1,World.cell?_alloc_past (w:=w.drew) _ vb j hvw];exact h
 have hcpA:∀ (W:World),(∀ x,W.cell? x=W1.cell? x)->(∀ x,W.frozen? x=W1.frozen? x)->∀ ty dc,(Builtin.copy_ #[23,23] ty #[.slice (some ⟨w.heap.size,i * 3,none⟩) (n + 1 - i) dc,.slice (some ⟨vb,0,none⟩) 1 vc]).run Tryz.prog W=.ok (goInt 1) (W.setCells w.heap.size (i * 3) vs):=fun W hWc hWf ty dc =>
  Go.KL.run_copy_cellsK W _ _ ty 30 3 w.heap.size (i * 3) (n + 1 - i) dc 1 ⟨vb,0,none⟩ 1 vc vs Tryz.underlying23 Tryz.sizeOf30 (by simp only [ng];split <;> omega) hvs
   (fun j v hj=>by rw [Addr.add_lit,hWc,nA];exact hOv _ v (hvcell j v hj))
   (fun j hj=>by rw [hWc];exact hN _ (by omega)) (fun j hj=>by rw [hWf];exact hNf _) h2
 have hGn:n + 1 <= G:=by rw [hG];exact grownCap_ge w _ _ _
 have hG63:G <= 9223372036854775807:=by
  have:=grownCap_le_maxLen w (n + 1) c 30 (by unfold maxLen;omega)
  rw [<- hG] at this
  unfold maxLen at this
  omega
 have hGi:¬ (G=i):=by omega
 have hGim:¬ (G=i + 1):=by omega
 have hci:¬ (c=i):=by omega
 have hbN:b ≠ w.heap.size:=by omega
 have hdl:(cs.drop (i * 3)).length=(n - i) * 3:=by rw [nV,hcs];omega
 have hcpB:∀ (W:World),(∀ x,W.cell? x=(W1.setCells w.heap.size (i * 3) vs).cell? x)->(∀ x,W.frozen? x=(W1.setCells w.heap.size (i * 3) vs).frozen? x)->∀ ty dc sc,(Builtin.copy_ #[23,23] ty #[.slice (some ⟨w.heap.size,(i + 1) * 3,none⟩) (n - i) dc,.slice (some ⟨b,i * 3,none⟩) (n - i) sc]).run Tryz.prog W=.ok (goInt ((n - i:Nat):Int)) (W.setCells w.heap.size ((i + 1) * 3) (cs.drop (i * 3))):=fun W hWc hWf ty dc sc =>
  Go.KL.run_copy_cellsK W _ _ ty 30 3 w.heap.size ((i + 1) * 3) (n - i) dc (n - i) ⟨b,i * 3,none⟩ (n - i) sc (cs.drop (i * 3)) Tryz.underlying23 Tryz.sizeOf30 (by simp) hdl
   (fun j v hj=>by
    rw [Addr.add_lit,hWc,World.cell?_setCells_out _ _ _ _ _ (fun h _=>absurd h hbN)]
    exact hOb _ v (hcell (i * 3 + j) v (by rwa [nI] at hj)))
   (fun j hj=>by rw [hWc];exact Go.KL.isSome_setCells' _ vs (i * 3) W1 (fun t ht=>hN _ (by omega)) _ (hN _ (by omega)))
   (fun j hj=>by rw [hWf,World.frozen?_setCells];exact hNf _) (fun v hv=>h1 v (nD hv))
 subst hW1
 have hE1:∀ x,((w.alloc (.cells ROW 30)).drew).cell? x=(w.drew.alloc (.cells ROW 30)).cell? x:=fun x=>rfl
 have hE2:∀ x,((w.alloc (.cells ROW 30)).drew).frozen? x=(w.drew.alloc (.cells ROW 30)).frozen? x:=fun x=>rfl
 have hF1:∀ x,(((w.alloc (.cells ROW 30)).drew.setCells w.heap.size (i * 3) vs).drew).cell? x=((w.drew.alloc (.cells ROW 30)).setCells w.heap.size (i * 3) vs).cell? x:=fun x=>rfl
 have hF2:∀ x,(((w.alloc (.cells ROW 30)).drew.setCells w.heap.size (i * 3) vs).drew).frozen? x=((w.drew.alloc (.cells ROW 30)).setCells w.heap.size (i * 3) vs).frozen? x:=fun x=>rfl
 have hw1:IntKind.i64.wrap ((i:Int) + 1)=(i:Int) + 1:=by rw [IntKind.wrap_i64];omega
 have hw2:IntKind.i64.wrap ((n:Int) + 1)=(n:Int) + 1:=by rw [IntKind.wrap_i64];omega
 have hb1:(0:Int) <= (i:Int) + 1:=by omega
 have hin:i <= n:=by omega
 have htn:((i:Int) + 1).toNat=i + 1:=by omega
 have hb3:(i:Int) <= (n:Int):=by omega
 clear hkk hik hold hROW hG hRl hN hNf hOb hOv hcell hvcell
 go_enter Tryz.func71,Tryz.ntmps71
 go_wp2_with (first
  | (at_builtin;refine Lib.wpList_append_run _ rfl _ _ _ _ rfl _ _ rfl rfl _ _ (hrz _) ?_)
  | (at_builtin;refine wpList_copy_runI _ rfl _ _ 23 23 rfl _ _ rfl rfl (hcpA _ hE1 hE2 _ _) ?_)
  | (at_builtin;refine wpList_copy_runI _ rfl _ _ 23 23 rfl _ _ rfl rfl (hcpB _ (fun _=>rfl) (fun _=>rfl) _ _ _) ?_))
 go_region_law_o (refine wCt rfl _ _ 23 23 rfl (.slice (some ⟨w.heap.size,(i + 1) * 3,none⟩) (n - i) (G - (i + 1))) (.slice (some ⟨b,i * 3,none⟩) (n - i) (c - i)) (by simp [Act.eval,Act.put]) (by simp [Act.eval,Act.put]) (hcpB _ hF1 hF2 3 (G - (i + 1)) (c - i)) ?_)
 go_wp2
 go_ret
 exact ⟨rfl,rfl⟩
end Go.Proofs
namespace Go.Proofs.YtapddcoodhijpaaGreat
open Go.KL
theorem wIO {a b:Int} (h0:0 <= a) (hb:0 < b):∃ x,rem a b=some x/\0 <= x/\x < b:=by
 refine ⟨a.tmod b,if_neg (by omega),?_,?_⟩
 ·rw [nR h0];exact Int.emod_nonneg _ (by omega)
 ·rw [nR h0];exact Int.emod_lt_of_pos _ hb
theorem wHY (x:Int):0 <= wCZ x:=by unfold wCZ;omega
theorem wNH (x:Int):wCZ x < 4294967296:=by unfold wCZ;omega
theorem w64u (x:Int):w64 (wCZ x)=wCZ x:=by
 have:=wHY x
 have:=wNH x
 exact wBE (by omega) (by omega)
theorem wLY (a:Int) {b:Int} (hb:b ≠ 0):∃ x,quo a b=some x:=⟨_,if_neg hb⟩
theorem wDm (d:wAC) (n:Int) (h0:0 <= d.next) (h1:d.next <= 1000000):∃ x d',wAM d n=some (x,d')/\0 <= d'.next/\d'.next <= d.next + 1/\0 <= x/\(x < n \/ (n <= 1/\x=0)):=by
 unfold wAM
 by_cases hn:n <= 1
 ·exact ⟨0,d,by rw [if_pos hn],h0,by omega,by omega,.inr ⟨hn,rfl⟩⟩
 rw [if_neg hn]
 by_cases hl:(d.bytes.length:Int)=0
 ·exact ⟨0,d,by rw [if_pos hl],h0,by omega,by omega,.inl (by omega)⟩
 rw [if_neg hl]
 obtain ⟨r,e1,r0,r1⟩:=wIO h0 (show (0:Int) < d.bytes.length by omega)
 obtain ⟨b,e2⟩:∃ b,idx d.bytes r=some b:=by
  unfold idx
  rw [if_pos r0,nE (by omega)]
  exact ⟨_,rfl⟩
 obtain ⟨q,e3⟩:=wLY d.next (b:=d.bytes.length) hl
 obtain ⟨st,e4,_,_⟩:=wIO (wHY ((wCZ ((wCZ ((wCZ (d.state * 45)) + (wCZ b))) + (wCZ (77 * (wCZ q))))) + 1)) (b:=65519) (by decide)
 rw [e1,hH,e2,hH,e3,hH,e4,hH,wBE (x:=d.next + 1) (by omega) (by omega)]
 have fin:∀ z:Int,∃ x d',((rem (w64 (wCZ z)) n).bind fun x=>some (x,(⟨d.bytes,d.next + 1,st⟩:wAC)))=some (x,d')/\0 <= d'.next/\d'.next <= d.next + 1/\0 <= x/\(x < n \/ (n <= 1/\x=0)):=by
  intro z
  obtain ⟨x,e5,x0,x1⟩:=wIO (a:=w64 (wCZ z)) (b:=n) (by rw [w64u];exact wHY z) (by omega)
  exact ⟨x,_,by rw [e5];rfl,by show 0 <= d.next + 1;omega,by show d.next + 1 <= _;omega,x0,.inl x1⟩
 by_cases c1:wCZ q=0
 ·rw [if_pos c1]
  by_cases c2:n <= 256
  ·rw [if_pos c2];exact fin _
  ·rw [if_neg c2];exact fin _
 ·rw [if_neg c1];exact fin _
theorem wNI (d:wAC) (a b:Int) (h0:0 <= d.next) (h1:d.next <= 1000000) (ha:-1000000 <= a) (hab:a <= b) (hb:b <= 1000000):∃ x d',wAY d a b=some (x,d')/\0 <= d'.next/\d'.next <= d.next + 1/\a <= x/\x <= b:=by
 unfold wAY
 rw [wBE (x:=b - a) (by omega) (by omega),wBE (x:=b - a + 1) (by omega) (by omega)]
 obtain ⟨x,d',e,n0,n1,x0,x1⟩:=wDm d (b - a + 1) h0 h1
 refine ⟨a + x,d',?_,n0,n1,by omega,by omega⟩
 rw [e,hH]
 simp only
 rw [wBE (by omega) (by omega)]
end Go.Proofs.YtapddcoodhijpaaGreat
namespace Go.Proofs.YtapddcoodhijpaaGreat
open Go.KL
theorem wNJ (x a b:Int):wBQ x a b=some (decide (a <= x) && decide (x <= b)):=by
 unfold wBQ
 by_cases h:a <= x <;> simp [h]
def okS (s:wAA):Bool:=(decide (1 <= s.Bib) && decide (s.Bib <= 999)) && ((decide (0 <= s.Time) && decide (s.Time <= 360000)) && (decide (0 <= s.Gate) && decide (s.Gate <= 60)))
theorem wKl (s:wAA):okS s=true ↔ (1 <= s.Bib/\s.Bib <= 999)/\(0 <= s.Time/\s.Time <= 360000)/\0 <= s.Gate/\s.Gate <= 60:=by
 unfold okS
 simp
theorem wKm (s:wAA):wAl s=some (okS s):=by
 unfold wAl okS
 simp only [wNJ,hH]
 by_cases h:(decide (1 <= s.Bib) && decide (s.Bib <= 999))=true
 ·rw [h]
  by_cases h2:(decide (0 <= s.Time) && decide (s.Time <= 360000))=true
  ·rw [h2];simp
  ·have:(decide (0 <= s.Time) && decide (s.Time <= 360000))=false:=by simpa using h2
   rw [this];simp
 ·have:(decide (1 <= s.Bib) && decide (s.Bib <= 999))=false:=by simpa using h
  rw [this];simp
theorem wNK {l:List wAA} {f:wAA->Option Bool} {p:wAA->Bool} (hf:∀ a,f a=some (p a)) (hn:l.length <= 1000):wAn l f=some (l.all p):=by
 unfold wAn
 rw [wLV (p:=p) (z:=false) (fun a _=>by rw [hf,hH];split <;> rfl) (by omega)]
 cases l.all p <;> rfl
theorem wLZ {K V:Type} [DecidableEq K] {m:List (K × V)} {x y:K} {v:V}:wFA (mput m x v) y=if y=x then some v else wFA m y:=by
 induction m with
 | nil=>simp only [mput,wFA]
 | cons p m ih =>
  obtain ⟨a,u⟩:=p
  rw [mput]
  by_cases h:x=a
  ·subst h
   rw [if_pos rfl,wFA,wFA]
   split <;> rfl
  ·rw [if_neg h,wFA,wFA,ih]
   by_cases h2:y=a
   ·rw [if_pos h2,if_neg (fun e:y=x=>h (e.symm.trans h2)),if_pos h2]
   ·rw [if_neg h2,if_neg h2]
theorem wLa {l:List Int} (hl:l.length <= 1000):wBY l=some (!decide l.Nodup):=by
 unfold wBY
 rw [wCn (by omega)]
 have key:∀ (m k:Nat) (t:List (Int × Bool)),k + m=l.length->(∀ n,wCx t n false=decide (n ∈ l.take k))->(l.take k).Nodup ->
   jn (forN (fun k20 l17 =>
  (idx l (↑k20:Int)).bind fun x41 =>
  if (wCx l17 x41 false)=true then
   esc (some true)
  else
   some (.inl (mput l17 x41 true))) m k t) (fun _=>some false)=some (!decide l.Nodup):=by
  intro m
  induction m with
  | zero =>
   intro k t hk _ hn
   rw [nZ (by omega)] at hn
   simp [forN,hn]
  | succ m ih =>
   intro k t hk ht hn
   have hlt:k < l.length:=by omega
   rw [forN,wCU hlt,hH,ht]
   by_cases c:gd l k ∈ l.take k
   ·have:¬ l.Nodup:=fun h=>by
     rw [<- nH k l,wNF hlt] at h
     exact (nG.1 h).2.2 _ c _ (by simp) rfl
    simp [c,this]
   ·rw [if_neg (by simpa using c)]
    simp only
    refine ih (k + 1) _ (by omega) (fun n=>?_) ?_
    ·unfold wCx at ht ⊢
     rw [wLZ,wHX hlt]
     by_cases e:n=gd l k
     ·rw [if_pos e];simp [e]
     ·rw [if_neg e,ht];simp [e]
    ·rw [wHX hlt,nG]
     exact ⟨hn,by simp,fun a ha b hb e=>by simp at hb;subst hb;subst e;exact c ha⟩
 exact key l.length 0 [] (by omega) (fun n=>by simp [wCx,wFA]) (by simp)
theorem wNL (a b:Int):wBL a b=some (decide (a < b)):=by
 unfold wBL wBP
 simp
instance ascInt (l:List Int):Decidable (∀ k,k + 1 < l.length->gd l k <= gd l (k + 1)) :=
 decidable_of_iff (∀ k,k < l.length - 1->gd l k <= gd l (k + 1)) ⟨fun h k hk=>h k (by omega),fun h k hk=>h k (by omega)⟩
theorem wKn {l:List Int} (hl:l.length <= 1000):wAi l=some (decide (∀ k,k + 1 < l.length->gd l k <= gd l (k + 1))):=by
 unfold wAi
 rw [wBE (by omega) (by omega)]
 have key:∀ (m F:Nat) (x:Int),x=(m:Int) - 1->m <= l.length->(∀ k,m <= k + 1->k + 1 < l.length->gd l k <= gd l (k + 1))->m < F->iter (fun x4 =>
  if 0 < x4 then
   (idx l x4).bind fun x21 =>
   (idx l (w64 (x4 - 1))).bind fun x29 =>
   (wBL x21 x29).bind fun x36 =>
   if x36=true then
    esc (some false)
   else
    some (.inl (w64 (x4 - 1)))
  else
   esc (some true)) F x=some (decide (∀ k,k + 1 < l.length->gd l k <= gd l (k + 1))):=by
  intro m
  induction m with
  | zero =>
   intro F x hx _ h hF
   obtain ⟨F,rfl⟩:∃ G,F=G + 1:=⟨F - 1,by omega⟩
   rw [iter,if_neg (by omega)]
   have:(∀ k,k + 1 < l.length->gd l k <= gd l (k + 1)):=fun k hk=>h k (by omega) hk
   simp only [wDx,decide_eq_true this]
  | succ m ih =>
   intro F x hx hm h hF
   obtain ⟨F,rfl⟩:∃ G,F=G + 1:=⟨F - 1,by omega⟩
   rw [iter]
   by_cases c:0 < x
   ·obtain ⟨j,rfl⟩:∃ j,m=j + 1:=⟨m - 1,by omega⟩
    have ex:x=((j + 1:Nat):Int):=by omega
    rw [if_pos c,wBE (x:=x - 1) (by omega) (by omega),show x - 1=(j:Int) by omega,ex,wCU (by omega),hH,wCU (by omega),hH,wNL,hH]
    by_cases c2:gd l (j + 1) < gd l j
    ·have:¬ (∀ k,k + 1 < l.length->gd l k <= gd l (k + 1)):=fun hh=>by have:=hh j (by omega);omega
     rw [if_pos (by simpa using c2)]
     simp only [wDx,decide_eq_false this]
    ·rw [if_neg (by simpa using c2)]
     simp only
     refine ih F _ (by omega) (by omega) (fun k h1 h2=>?_) (by omega)
     by_cases e:k=j
     ·subst e;omega
     ·exact h k (by omega) h2
   ·rw [if_neg c]
    have:(∀ k,k + 1 < l.length->gd l k <= gd l (k + 1)):=fun k hk=>h k (by omega) hk
    simp only [wDx,decide_eq_true this]
 exact key l.length big _ rfl (nO _) (fun k h1 h2=>by omega) (by unfold big;omega)
def Asc (l:List wAA):Prop:=∀ k,k + 1 < l.length->(gd l k).Time <= (gd l (k + 1)).Time
instance (l:List wAA):Decidable (Asc l) :=
 decidable_of_iff (∀ k,k < l.length - 1->(gd l k).Time <= (gd l (k + 1)).Time) ⟨fun h k hk=>h k (by omega),fun h k hk=>h k (by omega)⟩
def wLC (l:List wAA):Int:=if 60 < l.length then 2 else if l.all okS then (if (l.map (·.Bib)).Nodup then (if Asc l then 0 else 4) else 5) else 3
theorem wCo {l:List wAA} (hl:l.length <= 1000):wAp l=some (wLC l):=by
 unfold wAp
 have e:(wEz 0 (↑l.length:Int) (fun k33 (l25,l29) =>
  ((idx l (↑k33:Int)).bind fun x70 =>
  (app 8 l25 [x70.Bib]).bind fun x90 =>
  (app 8 l29 [x70.Time]).bind fun x103 =>
  some (x90,x103)).bind fun (l61,l64) =>
  some (l61,l64)) (([]:List Int),([]:List Int)))=some (l.map (·.Bib),l.map (·.Time)):=by
  have:=wKh (body:=fun (k33:Nat) ((l25,l29):List Int × List Int) =>
   ((idx l (↑k33:Int)).bind fun x70 =>
   (app 8 l25 [x70.Bib]).bind fun x90 =>
   (app 8 l29 [x70.Time]).bind fun x103 =>
   some (x90,x103)).bind fun (l61,l64) =>
   some (l61,l64)) (n:=l.length) (s0:=(([]:List Int),([]:List Int))) (fun k=>((l.take k).map (·.Bib),(l.take k).map (·.Time))) rfl (by omega) (by
    intro i hi
    simp only
    rw [wCU hi,hH,wGb (by simp;omega),hH,wGb (by simp;omega),hH,hH,wHX hi]
    simp)
  rw [List.take_length] at this
  exact this
 rw [e,hH]
 simp only
 unfold wLC
 by_cases h60:60 < l.length
 ·rw [if_pos (by omega),if_pos h60]
 rw [if_neg (by omega),if_neg h60,wNK wKm hl,hH]
 by_cases ha:l.all okS=true
 ·rw [if_pos ha,if_pos ha,wLa (by simpa using hl),hH]
  by_cases hd:(l.map (·.Bib)).Nodup
  ·rw [if_neg (by simpa using hd),if_pos hd,wKn (by simpa using hl),hH]
   have:(∀ k,k + 1 < (l.map (·.Time)).length->gd (l.map (·.Time)) k <= gd (l.map (·.Time)) (k + 1)) ↔ Asc l:=by
    unfold Asc
    rw [List.length_map]
    constructor
    ·intro h k hk
     have:=h k hk
     rwa [wFv _ (by omega),wFv _ hk] at this
    ·intro h k hk
     rw [wFv _ (by omega),wFv _ hk]
     exact h k hk
   simp only [this]
   by_cases hs:Asc l <;> simp [hs]
  ·rw [if_pos (by simpa using hd),if_neg hd]
 ·rw [if_neg ha,if_neg ha]
structure wGd (l:List wAA):Prop where
 len:l.length <= 60
 ok:∀ s ∈ l,(1 <= s.Bib/\s.Bib <= 999)/\(0 <= s.Time/\s.Time <= 360000)/\0 <= s.Gate/\s.Gate <= 60
 one:(l.map (·.Bib)).Nodup
 asc:Asc l
theorem wBv {l:List wAA}:wLC l=0 ↔ wGd l:=by
 unfold wLC
 constructor
 ·intro h
  by_cases h60:60 < l.length
  ·simp [h60] at h
  rw [if_neg h60] at h
  by_cases ha:l.all okS=true
  ·rw [if_pos ha] at h
   by_cases hd:(l.map (·.Bib)).Nodup
   ·rw [if_pos hd] at h
    by_cases hs:Asc l
    ·exact ⟨by omega,fun s hs=>(wKl s).1 (List.all_eq_true.1 ha s hs),hd,hs⟩
    ·rw [if_neg hs] at h;omega
   ·rw [if_neg hd] at h;omega
  ·rw [if_neg ha] at h;omega
 ·intro h
  rw [if_neg (by have:=h.len;omega),if_pos (List.all_eq_true.2 fun s hs=>(wKl s).2 (h.ok s hs)),if_pos h.one,if_pos h.asc]
theorem wLb {l:List wAA} {k:Nat} (h:k < l.length):gd l k ∈ l:=wKi h
theorem wKo {S:Type} {body:Nat->S->Option S} {n:Nat} {s0:S} (I:Nat->S->Prop) (hn:n <= 1000) (h0:I 0 s0) (h:∀ i s,i < n->I i s->∃ s',body i s=some s'/\I (i + 1) s'):∃ s,wEz 0 (n:Int) body s0=some s/\I n s:=by
 rw [wFW (by omega)]
 have:=wGZ (body:=body) I n 0 s0 h0 fun i s _ h2 h3=>h i s (by omega) h3
 rwa [nA] at this
theorem wFw {α:Type} [Inhabited α] {p:α->Bool}:∀ {l:List α} {j k:Nat},j < l.length->p (gd l j)=true->(∀ i,i < j->p (gd l i)=false)->first p l k=(k:Int) + j
 | [],j,k,h,_,_=>by simp at h
 | a :: l,0,k,h,h1,_=>by
  rw [first,if_pos (show p a=true from h1)];omega
 | a :: l,j + 1,k,h,h1,h2=>by
  have:=h2 0 (by omega)
  rw [first,if_neg (by rw [show p a=false from this];decide),wFw (j:=j) (by simpa using h) h1 fun i hi=>h2 (i + 1) (by omega)]
  omega
theorem wIP {α:Type} {p:α->Bool}:∀ {l:List α} {k:Nat},(∀ a ∈ l,p a=false)->first p l k=-1
 | [],_,_=>rfl
 | a :: l,k,h=>by
  rw [first,if_neg (by rw [h a (by simp)];decide)]
  exact wIP fun b hb=>h b (by simp [hb])
theorem gd_tk {α:Type} [Inhabited α] {l:List α} {n i:Nat} (h:i < n) (h2:i < l.length):gd (l.take n) i=gd l i:=by
 have h1:=wDS (xs:=l.take n) (k:=i) (by simp;omega)
 rw [List.getElem?_take_of_lt h,wDS h2] at h1
 exact (nh h1).symm
theorem wFx {l:List wAA} {f:wAA->Option Bool} {p:wAA->Bool} (hf:∀ a ∈ l,f a=some (p a)) (hn:l.length <= 1000):wAD l f=some (first p l 0):=by
 unfold wAD
 exact wIt (p:=p) hf (by omega) id
theorem wDL {l:List wAA} (hl:l.length <= 1000):wAE l=some l:=by
 unfold wAE
 rw [wGb (by simp;omega)];rfl
theorem wIQ {α:Type} {p:α->Bool}:∀ {l:List α} {k:Nat},first p l k=-1 \/ ((k:Int) <= first p l k/\first p l k < k + l.length)
 | [],k=>.inl rfl
 | a :: l,k=>by
  rw [first]
  split
  ·right;simp;omega
  ·rcases wIQ (p:=p) (l:=l) (k:=k + 1) with h | h
   ·exact .inl h
   ·right;simp at h ⊢;omega
theorem wNM {l:List wAA} (h:(l.map (·.Bib)).Nodup) {i j:Nat} (hi:i < l.length) (hj:j < l.length) (e:(gd l i).Bib=(gd l j).Bib):i=j:=by
 have hi':i < (l.map (·.Bib)).length:=by simpa using hi
 have hj':j < (l.map (·.Bib)).length:=by simpa using hj
 have e':(l.map (·.Bib))[i]=(l.map (·.Bib))[j]:=by
  rw [nK,nK,<- wIv hi,<- wIv hj]
  exact e
 have pw:=nU.1 h
 rcases Nat.lt_trichotomy i j with c | c | c
 ·exact absurd e' (pw i j hi' hj' c)
 ·exact c
 ·exact absurd e'.symm (pw j i hj' hi' c)
theorem wMB {α:Type} [Inhabited α] {l:List α} {a:α} (h:a ∈ l):∃ i,i < l.length/\gd l i=a:=by
 obtain ⟨i,hi,e⟩:=List.getElem_of_mem h
 exact ⟨i,hi,by rw [wIv hi,e]⟩
theorem wHZ (v:Int) {n:Int} (h1:1 <= n) (h2:n <= 1000):∃ x,wAc v n=some x/\0 <= x/\x < n:=by
 unfold wAc
 rw [if_neg (by omega),rem,if_neg (by omega),hH]
 have a1:=Int.lt_tmod_of_pos v (show 0 < n by omega)
 have a2:=Int.tmod_lt_of_pos v (show 0 < n by omega)
 rw [wBE (by omega) (by omega)]
 obtain ⟨x,e,x0,x1⟩:=wIO (a:=v.tmod n + n) (b:=n) (by omega) (by omega)
 rw [e,hH]
 exact ⟨x,rfl,x0,x1⟩
theorem wNN (d:wAC) (n:Int) (h0:0 <= d.next) (h1:d.next <= 1000000):∃ b d',wAg d n=some (b,d')/\0 <= d'.next/\d'.next <= d.next + 1:=by
 unfold wAg
 obtain ⟨x,d',e,a,b,_,_⟩:=wDm d n h0 h1
 rw [e,hH]
 exact ⟨_,d',rfl,a,b⟩
def lRd (k71:Nat):List Int × Int × Int × List wAA × Int->Option (List Int × Int × Int × List wAA × Int)
 | (l61,x64,x65,l66,x70) =>
  (wAY (⟨l61,x64,x65⟩:wAC) 1 5).bind fun (x100,x101) =>
  (wAM x101 5).bind fun (x114,x115) =>
  (app 24 l66 [(⟨w64 ((w64 (5 * (↑k71:Int))) + x100),x70,x114⟩:wAA)]).bind fun x133 =>
  (wAg x115 4).bind fun (x141,x142) =>
  if x141=true then
   some (x142.bytes,x142.next,x142.state,x133,x70)
  else
   (wAM x142 40).bind fun (x168,x169) =>
   some (x169.bytes,x169.next,x169.state,x133,w64 (x70 + x168))
theorem wFy (p0:wAC) (p1:Int):wAq p0 p1=(wAM p0 100).bind fun (x2,x3) =>
 (wAM x3 (w64 (p1 + 1))).bind fun (x16,x17) =>
 (wEz 0 x16 lRd (x17.bytes,x17.next,x17.state,[],x2)).bind fun (y76,y77,y78,y79,y80) =>
 some (y79,(⟨y76,y77,y78⟩:wAC)):=rfl
structure LInv (k:Nat) (s:List Int × Int × Int × List wAA × Int):Prop where
 n0:0 <= s.2.1
 n1:s.2.1 <= 2 + 4 * (k:Int)
 len:s.2.2.2.1.length=k
 t0:0 <= s.2.2.2.2
 t1:s.2.2.2.2 <= 99 + 39 * (k:Int)
 el:∀ i,i < k->5 * (i:Int) + 1 <= (gd s.2.2.2.1 i).Bib/\(gd s.2.2.2.1 i).Bib <= 5 * (i:Int) + 5/\0 <= (gd s.2.2.2.1 i).Time/\(gd s.2.2.2.1 i).Time <= s.2.2.2.2/\0 <= (gd s.2.2.2.1 i).Gate/\(gd s.2.2.2.1 i).Gate <= 4
 asc:Asc s.2.2.2.1
theorem wHa {k:Nat} {s:List Int × Int × Int × List wAA × Int} (hk:k < 24) (I:LInv k s):∃ s',lRd k s=some s'/\LInv (k + 1) s':=by
 obtain ⟨b,nx,st,l,t⟩:=s
 obtain ⟨n0,n1,hl,t0,t1,el,asc⟩:=I
 simp only at n0 n1 hl t0 t1 el asc
 unfold lRd
 simp only
 obtain ⟨a,d2,e2,p0,p1,a0,a1⟩:=wNI ⟨b,nx,st⟩ 1 5 n0 (by simp only;omega) (by omega) (by omega) (by omega)
 simp only at p1
 obtain ⟨g,d3,e3,q0,q1,g0,g1⟩:=wDm d2 5 p0 (by omega)
 obtain ⟨cb,d4,e4,r0,r1⟩:=wNN d3 4 q0 (by omega)
 rw [e2,hH]
 simp only
 rw [e3,hH]
 simp only
 rw [wBE (x:=5 * (k:Int)) (by omega) (by omega),wBE (x:=5 * (k:Int) + a) (by omega) (by omega),wGb (by simp;omega),hH,e4,hH]
 simp only
 have hel:∀ t',t <= t'->∀ i,i < k + 1->5 * (i:Int) + 1 <= (gd (l ++ [(⟨5 * (k:Int) + a,t,g⟩:wAA)]) i).Bib/\(gd (l ++ [(⟨5 * (k:Int) + a,t,g⟩:wAA)]) i).Bib <= 5 * (i:Int) + 5/\0 <= (gd (l ++ [(⟨5 * (k:Int) + a,t,g⟩:wAA)]) i).Time/\(gd (l ++ [(⟨5 * (k:Int) + a,t,g⟩:wAA)]) i).Time <= t'/\0 <= (gd (l ++ [(⟨5 * (k:Int) + a,t,g⟩:wAA)]) i).Gate/\(gd (l ++ [(⟨5 * (k:Int) + a,t,g⟩:wAA)]) i).Gate <= 4:=by
  intro t' ht i hi
  by_cases e:i=k
  ·rw [e,<- hl,wFu]
   simp only
   omega
  ·rw [wDd (by omega)]
   have:=el i (by omega)
   omega
 have hasc:Asc (l ++ [(⟨5 * (k:Int) + a,t,g⟩:wAA)]):=by
  intro i hi
  rw [nc,List.length_singleton] at hi
  by_cases e:i + 1=k
  ·rw [wDd (by omega),e,<- hl,wFu]
   simp only
   exact (el i (by omega)).2.2.2.1
  ·rw [wDd (by omega),wDd (by omega)]
   exact asc i (by omega)
 have hlen:(l ++ [(⟨5 * (k:Int) + a,t,g⟩:wAA)]).length=k + 1:=by simp [hl]
 cases cb with
 | true =>
  refine ⟨_,if_pos rfl,r0,by simp only;omega,hlen,t0,by simp only;omega,hel t (by omega),hasc⟩
 | false =>
  simp only [Bool.false_eq_true,if_false]
  obtain ⟨y,d5,e5,u0,u1,y0,y1⟩:=wDm d4 40 r0 (by omega)
  rw [e5,hH]
  simp only
  rw [wBE (by omega) (by omega)]
  exact ⟨_,rfl,u0,by simp only;omega,hlen,by simp only;omega,by simp only;omega,hel (t + y) (by omega),hasc⟩
theorem wKp (d:wAC) (h0:d.next=0):∃ l d',wAq d 24=some (l,d')/\l.length <= 24/\wGd l/\∀ s ∈ l,s.Bib <= 120/\s.Time <= 1100:=by
 rw [wFy]
 obtain ⟨t,d1,e1,m0,m1,t0,t1⟩:=wDm d 100 (by omega) (by omega)
 rw [e1,hH]
 simp only
 rw [wBE (by omega) (by omega)]
 obtain ⟨n,d2,e2,p0,p1,n0,n1⟩:=wDm d1 (24 + 1) m0 (by omega)
 rw [e2,hH]
 simp only
 obtain ⟨m,rfl⟩:∃ m:Nat,n=m:=⟨n.toNat,by omega⟩
 obtain ⟨⟨b,nx,st,l,t'⟩,hs,I⟩:=wKo (body:=lRd) (n:=m) (s0:=(d2.bytes,d2.next,d2.state,[],t)) LInv (by omega) ⟨p0,by simp only;omega,rfl,t0,by simp only;omega,fun i hi=>by omega,fun i hi=>by simp at hi⟩ (fun i s hi I=>wHa (by omega) I)
 rw [hs,hH]
 obtain ⟨i0,i1,hl,u0,u1,el,asc⟩:=I
 simp only at i0 i1 hl u0 u1 el asc ⊢
 refine ⟨l,_,rfl,by omega,⟨by omega,fun s hs=>?_,?_,asc⟩,fun s hs=>?_⟩
 ·obtain ⟨i,hi,e⟩:=wMB hs
  have:=el i (by omega)
  rw [e] at this
  omega
 ·rw [List.nodup_iff_pairwise_ne,nU]
  intro i j hi hj hij he
  rw [List.length_map] at hi hj
  rw [nK,nK,<- wIv hi,<- wIv hj] at he
  have:=el i (by omega)
  have:=el j (by omega)
  omega
 ·obtain ⟨i,hi,e⟩:=wMB hs
  have:=el i (by omega)
  rw [e] at this
  omega
end Go.Proofs.YtapddcoodhijpaaGreat
namespace Go.Proofs.YtapddcoodhijpaaGreat
open Go.KL
def tks (l:List wAA) (x:Int):Bool:=l.any fun s=>decide (s.Time=x)
theorem wKq {l:List wAA} {x:Int}:tks l x=true ↔ x ∈ l.map (·.Time):=by
 unfold tks
 simp [nW]
theorem wNO {g:Int} (hg:1 <= g):∀ (n:Nat) (T:List Int) (x:Int),T.length <= n->∃ m:Nat,m <= n/\(∀ j:Nat,j < m->x + j * g ∈ T)/\x + m * g ∉ T:=by
 intro n
 induction n with
 | zero =>
  intro T x h
  have:T=[]:=nJ.1 (by omega)
  subst this
  exact ⟨0,nO _,fun j hj=>by omega,by simp⟩
 | succ n ih =>
  intro T x h
  by_cases hx:x ∈ T
  ·have hlen:(T.filter (· ≠ x)).length <= n:=by
    have h2:(T.filter (· ≠ x)).length < T.length:=by
     rw [<- List.countP_eq_length_filter]
     have:=List.length_eq_countP_add_countP (p:=fun y=>decide (y ≠ x)) (l:=T)
     have:0 < T.countP (fun y=>decide ¬ (decide (y ≠ x)=true)):=List.countP_pos_iff.2 ⟨x,hx,by simp⟩
     omega
    omega
   obtain ⟨m,h1,h2,h3⟩:=ih (T.filter (· ≠ x)) (x + g) hlen
   refine ⟨m + 1,by omega,fun j hj=>?_,fun hm=>h3 ?_⟩
   ·cases j with
    | zero=>simpa using hx
    | succ j =>
     have:=(List.mem_filter.1 (h2 j (by omega))).1
     rwa [show x + ((j + 1:Nat):Int) * g=x + g + (j:Int) * g by rw [nM,nP];omega]
   ·refine List.mem_filter.2 ⟨?_,?_⟩
    ·rwa [show x + g + (m:Int) * g=x + ((m + 1:Nat):Int) * g by rw [nM,nP];omega]
    ·have:0 <= (m:Int) * g:=nN (by omega) (by omega)
     simp;omega
  ·exact ⟨0,by omega,fun j hj=>by omega,by simpa using hx⟩
structure Fr (l:List wAA) (x g:Int) (m:Nat):Prop where
 le:m <= l.length
 all:∀ j:Nat,j < m->tks l (x + j * g)=true
 no:tks l (x + m * g)=false
theorem wOQ (l:List wAA) (x:Int) {g:Int} (hg:1 <= g):∃ m,Fr l x g m:=by
 obtain ⟨m,h1,h2,h3⟩:=wNO hg l.length (l.map (·.Time)) x (by simp)
 refine ⟨m,h1,fun j hj=>wKq.2 (h2 j hj),?_⟩
 cases h:tks l (x + m * g) with
 | false=>rfl
 | true=>exact absurd (wKq.1 h) h3
def pos (f:Int):List wAA->Nat
 | []=>0
 | s :: l=>if f < s.Time then 0 else pos f l + 1
theorem wCp (f:Int):∀ l,pos f l <= l.length
 | []=>nO _
 | s :: l=>by
  have:=wCp f l
  unfold pos
  split <;> simp <;> omega
theorem wGe (f:Int):∀ (l:List wAA) (k:Nat),first (fun s=>decide (f < s.Time)) l k=if pos f l=l.length then -1 else (k:Int) + pos f l
 | [],k=>rfl
 | s :: l,k=>by
  have:=wCp f l
  rw [first,pos,wGe f l (k + 1)]
  by_cases h:f < s.Time
  ·rw [if_pos (by simpa using h),if_pos h,if_neg (by simp)];omega
  ·rw [if_neg (by simpa using h),if_neg h]
   by_cases e:pos f l=l.length
   ·rw [if_pos e,if_pos (by simp;omega)]
   ·rw [if_neg e,if_neg (by simp;omega)];omega
theorem wFX {f:Int}:∀ {l:List wAA} {i:Nat},i < pos f l->(gd l i).Time <= f
 | [],i,h=>by simp [pos] at h
 | s :: l,i,h=>by
  unfold pos at h
  split at h
  ·omega
  ·rename_i h0
   cases i with
   | zero=>show s.Time <= f;omega
   | succ i=>exact wFX (l:=l) (by omega)
theorem wMC {f:Int}:∀ {l:List wAA},pos f l < l.length->f < (gd l (pos f l)).Time
 | [],h=>by simp at h
 | s :: l,h=>by
  unfold pos at h ⊢
  split
  ·rename_i h0;exact h0
  ·rename_i h0
   rw [if_neg h0] at h
   exact wMC (l:=l) (by simpa using h)
def ins (l:List wAA) (b f:Int):List wAA:=l.take (pos f l) ++ [(⟨b,f,0⟩:wAA)] ++ l.drop (pos f l)
theorem wEr {l:List wAA} {b f:Int}:(ins l b f).length=l.length + 1:=by
 have:=wCp f l
 unfold ins
 simp;omega
theorem wKr (p:wAA->Bool) (l:List wAA):decide (0 <= first p l 0)=l.any p:=wGa p l 0
theorem wEs {l:List wAA} {f:wAA->Option Bool} {p:wAA->Bool} (hf:∀ a ∈ l,f a=some (p a)) (hn:l.length <= 1000):wAK l f=some (l.any p):=by
 unfold wAK
 rw [wFx hf hn,hH,wKr]
def wd (l:List wAA) (b:Int):List wAA × Int :=
 if wLC l=0 then (if first (fun s=>decide (s.Bib=b)) l 0 < 0 then ([],1) else (l.take (first (fun s=>decide (s.Bib=b)) l 0).toNat ++ l.drop ((first (fun s=>decide (s.Bib=b)) l 0).toNat + 1),0)) else ([],wLC l)
theorem wGf {l:List wAA} {k:Int} (h0:0 <= k) (h1:k < l.length) (hl:l.length <= 1000):wAL l k (w64 (k + 1))=some (l.take k.toNat ++ l.drop (k.toNat + 1)):=by
 unfold wAL delO
 rw [wBE (by omega) (by omega),if_pos (by omega)]
 congr 3
 omega
theorem wDM {l:List wAA} (hl:l.length <= 1000) (b:Int):wAX l b=some (wd l b):=by
 unfold wAX wd
 rw [wCo hl,hH]
 by_cases h:wLC l=0
 ·rw [if_pos h,if_pos h,wFx (f:=fun x=>wAs x b) (p:=fun s=>decide (s.Bib=b)) (fun a _=>rfl) hl,hH]
  by_cases h2:first (fun s=>decide (s.Bib=b)) l 0 < 0
  ·rw [if_pos h2,if_pos h2]
  ·rw [if_neg h2,if_neg h2,wDL hl,hH]
   have:=wIQ (p:=fun s:wAA=>decide (s.Bib=b)) (l:=l) (k:=0)
   rw [wGf (by omega) (by omega) hl,hH]
 ·rw [if_neg h,if_neg h]
def x0 (l:List wAA):Int:=if 0 < l.length then (gd l 0).Time else 0
def en (l:List wAA) (b g:Int) (m:Nat):List wAA × Int :=
 if wLC l=0 then
  if 1 <= b/\b <= 999 then
   if 1 <= g/\g <= 360000 then
    if l.any (fun s=>decide (s.Bib=b))=true then ([],5)
    else if l.length=60 then ([],2)
    else if 360000 < x0 l + m * g then ([],10)
    else (ins l b (x0 l + m * g),0)
   else ([],3)
  else ([],3)
 else ([],wLC l)
theorem wGg {l:List wAA} {k:Nat} {s:wAA} (h1:k <= l.length) (hl:l.length <= 1000):wAG l (k:Int) [s]=some (l.take k ++ [s] ++ l.drop k):=by
 unfold wAG insO
 rw [if_pos ⟨rfl,by omega,by omega,by omega⟩]
 rfl
theorem wGh {l:List wAA} (hl:l.length <= 1000) (g x:Int) {R:Type} :
    (jn (wGD 0 (↑l.length:Int) (fun k117 _ =>
                  (idx l (↑k117:Int)).bind fun x140 =>
                  if x140.Time=x then
                    esc (some (.inl (w64 (x + g))))
                  else
                    some (.inl ())) ()) fun _ =>
                esc (some x))=some (if tks l x=true then (.inl (w64 (x + g)):Int ⊕ Int) else .inr x):=by
  have h:=wLW (n:=l.length) (body:=fun (k117:Nat) (_:Unit) =>
                  (idx l (↑k117:Int)).bind fun x140 =>
                  if x140.Time=x then
                    (esc (some (.inl (w64 (x + g)))):Option (Unit ⊕ (Int ⊕ Int)))
                  else
                    some (.inl ())) (fun k=>if (!decide ((gd l k).Time=x))=true then none else some (.inl (w64 (x + g)):Int ⊕ Int)) hl (fun i hi=>by
      rw [wCU hi,hH]
      by_cases e:(gd l i).Time=x <;> simp [e,out])
  rw [h,wMA (q:=fun k=>!decide ((gd l k).Time=x))]
  have ha:wNG (fun k=>!decide ((gd l k).Time=x)) l.length 0=l.all (fun s=>!decide (s.Time=x)):=(wLX (fun s:wAA=>!decide (s.Time=x)) l).symm
  have hb:tks l x=!l.all (fun s=>!decide (s.Time=x)):=by
    unfold tks
    rw [List.not_all_eq_any_not]
    simp
  rw [ha,hb]
  cases l.all (fun s=>!decide (s.Time=x)) <;> rfl
theorem wFY {l:List wAA} (hl:l.length <= 60) {b g x:Int} {m:Nat} (hx:0 <= x) (hx2:x <= 360000) (hg:1 <= g) (hg2:g <= 360000) (F:Fr l x g m) :
    ((iter (fun x101 =>
                jn (wGD 0 (↑l.length:Int) (fun k117 _ =>
                  (idx l (↑k117:Int)).bind fun x140 =>
                  if x140.Time=x101 then
                    esc (some (.inl (w64 (x101 + g))))
                  else
                    some (.inl ())) ()) fun _ =>
                esc (some x101)) big x).bind fun x94 =>
              if 360000 < x94 then
                some (([]:List wAA),(10:Int))
              else
                (wAD l (fun x=>wAj x x94)).bind fun x206 =>
                if x206 < 0 then
                  ((wAE l).bind fun x230 =>
                  (wAG x230 (↑l.length:Int) [(⟨b,x94,0⟩:wAA)]).bind fun x248 =>
                  some x248).bind fun l218 =>
                  some (l218,0)
                else
                  ((wAE l).bind fun x354 =>
                  (wAG x354 x206 [(⟨b,x94,0⟩:wAA)]).bind fun x372 =>
                  some x372).bind fun l342 =>
                  some (l342,0))=some (if 360000 < x + m * g then ([],10) else (ins l b (x + m * g),0)):=by
  have hm:=F.le
  have bnd:∀ j:Nat,j <= m->0 <= (j:Int) * g/\(j:Int) * g <= 60 * 360000:=fun j hj =>
    ⟨nN (by omega) (by omega),na (by omega) hg2 (by omega) (by omega)⟩
  have hi:=wKk (body:=fun x101 =>
                jn (wGD 0 (↑l.length:Int) (fun k117 _ =>
                  (idx l (↑k117:Int)).bind fun x140 =>
                  if x140.Time=x101 then
                    esc (some (.inl (w64 (x101 + g))))
                  else
                    some (.inl ())) ()) fun _ =>
                esc (some x101)) (m:=m) (fun j:Nat=>x + (j:Int) * g) (fun j hj=>by
      rw [wGh (by omega) g _ (R:=Unit),F.all j hj,if_pos rfl]
      have b1:=bnd j (by omega)
      have b2:=bnd (j + 1) (by omega)
      have e:x + ((j + 1:Nat):Int) * g=x + (j:Int) * g + g:=by rw [nM,nP];omega
      rw [wBE (by omega) (by omega),e]) (b:=x + (m:Int) * g) (by
      rw [wGh (by omega) g _ (R:=Unit),F.no]
      rfl) (s0:=x) (by simp) (by omega)
  rw [hi,hH]
  by_cases hbig:360000 < x + m * g
  · rw [if_pos hbig,if_pos hbig]
  rw [if_neg hbig,if_neg hbig,wFx (f:=fun y=>wAj y (x + m * g)) (p:=fun s=>decide (x + m * g < s.Time)) (fun a _=>rfl) (by omega),hH,wGe]
  have hp:=wCp (x + m * g) l
  by_cases e:pos (x + m * g) l=l.length
  · rw [if_pos e,if_pos (by omega),wDL (by omega),hH,wGg (nO _) (by omega),hH,hH]
    unfold ins
    rw [e]
  · rw [if_neg e,if_neg (by omega),wDL (by omega),hH,show ((0:Nat):Int) + (pos (x + m * g) l:Int)=(pos (x + m * g) l:Int) by omega,wGg hp (by omega),hH,hH]
    rfl
theorem wIR {l:List wAA} (hl:l.length <= 1000) {b g:Int} {m:Nat} (F:1 <= g->Fr l (x0 l) g m):wBB l b g=some (en l b g m):=by
 unfold wBB en
 rw [wCo hl,hH]
 by_cases h:wLC l=0
 case neg=>rw [if_neg h,if_neg h]
 have G:=wBv.1 h
 have h60:=G.len
 rw [if_pos h,if_pos h,wNJ,hH]
 by_cases hb:1 <= b/\b <= 999
 case neg =>
  rw [if_neg hb,if_neg (by rw [nL,decide_eq_true_iff,decide_eq_true_iff];exact hb)]
 rw [if_pos hb,if_pos (by rw [nL,decide_eq_true_iff,decide_eq_true_iff];exact hb),wNJ,hH]
 by_cases hg:1 <= g/\g <= 360000
 case neg =>
  rw [if_neg hg,if_neg (by rw [nL,decide_eq_true_iff,decide_eq_true_iff];exact hg)]
 rw [if_pos hg,if_pos (by rw [nL,decide_eq_true_iff,decide_eq_true_iff];exact hg),wEs (f:=fun x=>wBF x b) (p:=fun s=>decide (s.Bib=b)) (fun a _=>rfl) hl,hH]
 by_cases ha:l.any (fun s=>decide (s.Bib=b))=true
 ·rw [if_pos ha,if_pos ha]
 rw [if_neg ha,if_neg ha]
 by_cases hc:l.length=60
 ·rw [if_pos (by omega),if_pos hc]
 rw [if_neg (by omega),if_neg hc]
 have F:=F hg.1
 by_cases hp:0 < l.length
 ·have e0:x0 l=(gd l 0).Time:=if_pos hp
  rw [e0] at F ⊢
  have ht:=(G.ok _ (wLb hp)).2.1
  have hi0:idx l 0=some (gd l 0):=wCU (k:=0) hp
  rw [if_pos (by omega),hi0,hH]
  exact wFY h60 ht.1 ht.2 hg.1 hg.2 F
 ·have e0:x0 l=0:=if_neg hp
  rw [e0] at F ⊢
  rw [if_neg (by omega)]
  exact wFY h60 (by omega) (by omega) hg.1 hg.2 F
end Go.Proofs.YtapddcoodhijpaaGreat
namespace Go.Proofs.YtapddcoodhijpaaGreat
open Go.KL
section
variable {l:List wAA} {b f:Int}
theorem wIS {i:Nat} (h:i < pos f l):gd (ins l b f) i=gd l i:=by
 have hp:=wCp f l
 unfold ins
 rw [nS,wDd (by simp;omega),gd_tk h (by omega)]
theorem wIT:gd (ins l b f) (pos f l)=⟨b,f,0⟩:=by
 have hp:=wCp f l
 unfold ins
 have:=wFu (l.take (pos f l)) (l.drop (pos f l)) (⟨b,f,0⟩:wAA)
 rw [List.length_take,Nat.min_eq_left hp] at this
 rw [nS]
 exact this
theorem wKs {i:Nat} (h:pos f l <= i) (hi:i < l.length):gd (ins l b f) (i + 1)=gd l i:=by
 have hp:=wCp f l
 unfold ins
 have hl:(l.take (pos f l) ++ [(⟨b,f,0⟩:wAA)]).length=pos f l + 1:=by simp;omega
 have h1:=wDS (xs:=l.take (pos f l) ++ [(⟨b,f,0⟩:wAA)] ++ l.drop (pos f l)) (k:=i + 1) (by rw [nc,hl];simp;omega)
 rw [List.getElem?_append_right (by omega),hl,nI,show pos f l + (i + 1 - (pos f l + 1))=i by omega,wDS hi] at h1
 exact (nh h1).symm
theorem wKt {s:wAA}:s ∈ ins l b f ↔ s=⟨b,f,0⟩ \/ s ∈ l:=by
 unfold ins
 simp only [nX,nQ]
 constructor
 ·rintro ((h | h) | h)
  ·exact .inr (nb h)
  ·exact .inl h
  ·exact .inr (nD h)
 ·rintro (h | h)
  ·exact .inl (.inr h)
  ·rw [<- nH (pos f l) l,nX] at h
   rcases h with h | h
   ·exact .inl (.inl h)
   ·exact .inr h
theorem wLc (G:wGd l) (hl:l.length < 60) (hb:1 <= b/\b <= 999) (hf:0 <= f/\f <= 360000) (hn:∀ s ∈ l,s.Bib ≠ b):wGd (ins l b f):=by
 have hp:=wCp f l
 refine ⟨by rw [wEr];omega,fun s hs=>?_,?_,?_⟩
 ·rcases wKt.1 hs with rfl | h
  ·exact ⟨hb,hf,by show (0:Int) <= 0;omega,by show (0:Int) <= 60;omega⟩
  ·exact G.ok s h
 ·have h0:=G.one
  rw [<- nH (pos f l) l,nY,nG] at h0
  unfold ins
  rw [nY,nY,nG,nG]
  refine ⟨⟨h0.1,by simp,?_⟩,h0.2.1,?_⟩
  ·rintro x hx y hy rfl
   rw [nf,nQ] at hy
   obtain ⟨s,hs,e⟩:=List.mem_map.1 hx
   exact hn s (nb hs) (e.trans hy)
  ·intro x hx y hy
   rcases nX.1 hx with hx | hx
   ·exact h0.2.2 x hx y hy
   ·rintro rfl
    rw [nf,nQ] at hx
    obtain ⟨s,hs,e⟩:=List.mem_map.1 hy
    exact hn s (nD hs) (e.trans hx)
 ·intro k hk
  rw [wEr] at hk
  rcases Nat.lt_trichotomy (k + 1) (pos f l) with h | h | h
  ·rw [wIS h,wIS (by omega)]
   exact G.asc k (by omega)
  ·rw [h,wIT,wIS (by omega)]
   exact wFX (f:=f) (l:=l) (by omega)
  ·by_cases e:k=pos f l
   ·subst e
    rw [wIT,wKs (nO _) (by omega)]
    have:=wMC (f:=f) (l:=l) (by omega)
    show f <= _
    omega
   ·obtain ⟨j,rfl⟩:∃ j,k=j + 1:=⟨k - 1,by omega⟩
    rw [wKs (by omega) (by omega),wKs (by omega) (by omega)]
    exact G.asc j (by omega)
theorem wGi (hn:∀ s ∈ l,s.Bib ≠ b):first (fun s=>decide (s.Bib=b)) (ins l b f) 0=(pos f l:Int):=by
 have hp:=wCp f l
 rw [wFw (j:=pos f l) (by rw [wEr];omega) (by rw [wIT];simp) fun i hi=>by
  rw [wIS hi]
  simpa using hn _ (wLb (by omega))]
 omega
theorem wOR (G:wGd (ins l b f)) (hn:∀ s ∈ l,s.Bib ≠ b):wd (ins l b f) b=(l,0):=by
 have hp:=wCp f l
 unfold wd
 rw [wBv.2 G,if_pos rfl,wGi hn,if_neg (by omega),nT]
 have hl:(l.take (pos f l)).length=pos f l:=by simp;omega
 have e1:(ins l b f).take (pos f l)=l.take (pos f l):=by
  unfold ins
  rw [nS,List.take_append_of_le_length (by omega),nZ (by omega)]
 have e2:(ins l b f).drop (pos f l + 1)=l.drop (pos f l):=by
  unfold ins
  rw [List.drop_append_of_le_length (by simp;omega),List.drop_of_length_le (by simp;omega)]
  rfl
 rw [e1,e2,nH]
end
theorem wMD (l:List wAA) (hl:l.length <= 1000):wAO l l=some true:=by
 unfold wAO
 exact wIw (by omega)
theorem wOS {l:List wAA} (hl:l.length <= 1000):wAQ l=some l:=by
 unfold wAQ
 rw [wGb (by simp;omega)];rfl
theorem wFz {l:List wAA} (hl:l.length <= 1000) (x:Int):wAN x l=some (tks l x):=by
 unfold wAN
 rw [wEs (f:=fun y=>wAR y x) (p:=fun s=>decide (s.Time=x)) (fun a _=>rfl) hl]
 rfl
theorem wLd {l:List wAA} {b:Int} (hn:∀ s ∈ l,s.Bib ≠ b):first (fun s=>decide (s.Bib=b)) l 0=-1:=wIP fun a ha=>by simpa using hn a ha
theorem wOT {l:List wAA} {b:Int} (hn:∀ s ∈ l,s.Bib ≠ b):l.any (fun s=>decide (s.Bib=b))=false:=by
 cases h:l.any (fun s=>decide (s.Bib=b)) with
 | false=>rfl
 | true =>
  obtain ⟨s,hs,e⟩:=nW.1 h
  exact absurd (by simpa using e) (hn s hs)
theorem wNP {l:List wAA} {b f g p1:Int} {m:Nat} (G:wGd l) (G':wGd (ins l b f)) (hn:∀ s ∈ l,s.Bib ≠ b) (hb:1 <= b/\b <= 999) (hg:1 <= g/\g <= 360000) :
    ((wAX l b).bind fun (x314,x315) =>
                            (wBB (ins l b f) b g).bind fun (x330,x331) =>
                            if x315=1 then
                              if x331=5 then
                                if (↑l.length:Int)=0 then
                                  (wAe).bind fun x352 =>
                                  some x352
                                else
                                  (wAc p1 (↑l.length:Int)).bind fun x363 =>
                                  (idx l x363).bind fun x381 =>
                                  (wAX l x381.Bib).bind fun (x391,x392) =>
                                  if x392=0 then
                                    (wAQ l).bind fun x409 =>
                                    (wAL x409 x363 (w64 (x363 + 1))).bind fun x422 =>
                                    (wAO x391 x422).bind fun x446 =>
                                    if x446=true then
                                      (wAe).bind fun x458 =>
                                      some x458
                                    else
                                      some false
                                  else
                                    some false
                              else
                                some false
                            else
                              some false)=some true:=by
  have hl:=G.len
  have hl':=G'.len
  have e1:wd l b=([],1):=by
    unfold wd
    rw [wBv.2 G,if_pos rfl,wLd hn,if_pos (by omega)]
  obtain ⟨m,hm⟩:=wOQ (ins l b f) (x0 (ins l b f)) hg.1
  have e2:en (ins l b f) b g m=([],5):=by
    unfold en
    rw [wBv.2 G',if_pos rfl,if_pos hb,if_pos hg,if_pos (nW.2 ⟨⟨b,f,0⟩,wKt.2 (.inl rfl),by simp⟩)]
  rw [wDM (by omega),e1,hH]
  simp only
  rw [wIR (by omega) fun _=>hm,e2,hH]
  simp only [if_true]
  by_cases h0:l.length=0
  · rw [if_pos (by omega)];rfl
  rw [if_neg (by omega)]
  obtain ⟨k,ek,k0,k1⟩:=wHZ p1 (n:=(l.length:Int)) (by omega) (by omega)
  obtain ⟨i,rfl⟩:=Int.eq_ofNat_of_zero_le k0
  have hi:i < l.length:=by omega
  rw [ek,hH,wCU hi,hH,wDM (by omega)]
  have ef:first (fun s=>decide (s.Bib=(gd l i).Bib)) l 0=(i:Int):=by
    rw [wFw (j:=i) hi (by simp) fun j hj=>by
      have:=mt (wNM G.one (show j < l.length by omega) hi) (by omega)
      simpa using this]
    omega
  have e3:wd l (gd l i).Bib=(l.take i ++ l.drop (i + 1),0):=by
    unfold wd
    rw [wBv.2 G,if_pos rfl,ef,if_neg (by omega),nT]
  rw [e3,hH]
  simp only [if_true]
  rw [wOS (by omega),hH,wGf (by omega) (by omega) (by omega),hH,nT,wMD _ (by simp;omega),hH,if_pos rfl]
  rfl
theorem wIU {l:List wAA} {x g:Int} {m:Nat} (hl:l.length <= 60) (hx:0 <= x) (hx2:x <= 360000) (hg:1 <= g) (hg2:g <= 360000) (F:Fr l x g m) (K:Option Bool) (hK:K=some true) :
    iter (fun x252 =>
                          if x252 < x + m * g then
                            (wAN x252 l).bind fun x283 =>
                            if x283=true then
                              some (.inl (w64 (x252 + g)))
                            else
                              esc (some false)
                          else
                            esc K) big x=some true:=by
  have hm:=F.le
  have bnd:∀ j:Nat,j <= m->0 <= (j:Int) * g/\(j:Int) * g <= 60 * 360000:=fun j hj =>
    ⟨nN (by omega) (by omega),na (by omega) hg2 (by omega) (by omega)⟩
  refine wKk (m:=m) (fun j:Nat=>x + (j:Int) * g) (fun j hj=>?_) (b:=true) ?_ (s0:=x) (by simp) (by omega)
  · have hlt:x + (j:Int) * g < x + (m:Int) * g:=by
      have:=Int.mul_le_mul_of_nonneg_right (show (j:Int) + 1 <= m by omega) (show 0 <= g by omega)
      rw [nP] at this
      omega
    rw [if_pos hlt,wFz (by omega),hH,F.all j hj,if_pos rfl]
    have b1:=bnd j (by omega)
    have e:x + ((j + 1:Nat):Int) * g=x + (j:Int) * g + g:=by rw [nM,nP];omega
    rw [wBE (by omega) (by omega),e]
  · rw [if_neg (by omega),hK];rfl
theorem wHb (p0:List Int) (p1 p2 p3:Int) (_:-9223372036854775808 <= p1) (_:p1 <= 9223372036854775807) (_:-9223372036854775808 <= p2) (_:p2 <= 9223372036854775807) (_:-9223372036854775808 <= p3) (_:p3 <= 9223372036854775807):wAo p0 p1 p2 p3=some true:=by
 unfold wAo
 have eO:∃ d,wBX p0=some d/\d.next=0:=⟨_,rfl,rfl⟩
 obtain ⟨d,eO,d0⟩:=eO
 rw [eO,hH]
 obtain ⟨l,d',el,hl,G,hb⟩:=wKp d d0
 rw [el,hH]
 simp only
 obtain ⟨a,ea,a0,a1⟩:=wHZ p2 (n:=50) (by omega) (by omega)
 obtain ⟨c,ec,c0,c1⟩:=wHZ p3 (n:=200) (by omega) (by omega)
 rw [ea,hH,ec,hH,wBE (x:=c + 300) (by omega) (by omega),wBE (x:=a + 1) (by omega) (by omega)]
 generalize hB:c + 300=b
 generalize hG:a + 1=g
 have hn:∀ s ∈ l,s.Bib ≠ b:=fun s hs=>by have:=hb s hs;omega
 obtain ⟨m,F⟩:=wOQ l (x0 l) (g:=g) (by omega)
 have hx:0 <= x0 l/\x0 l <= 1100:=by
  unfold x0
  split
  ·rename_i h
   have h1:=hb _ (wLb h)
   have h2:=(G.ok _ (wLb h)).2.1
   omega
  ·omega
 have hmg:0 <= (m:Int) * g/\(m:Int) * g <= 24 * 50:=by
  have:=F.le
  exact ⟨nN (by omega) (by omega),na (by omega) (by omega) (by omega) (by omega)⟩
 generalize hf:x0 l + m * g=f at *
 have ee:en l b g m=(ins l b f,0):=by
  unfold en
  rw [wBv.2 G,if_pos rfl,if_pos (by omega),if_pos (by omega),wOT hn,if_neg (by simp),if_neg (by omega),hf,if_neg (by omega)]
 have G':wGd (ins l b f):=wLc G (by omega) (by omega) (by omega) hn
 have hl':=G'.len
 have hp:=wCp f l
 rw [wIR (by omega) fun _=>F,ee,hH]
 simp only [if_true]
 rw [wEr,wBE (by omega) (by omega),if_pos (by omega),wCo (by omega),wBv.2 G',hH,if_pos rfl,wDM (by omega),wOR G' hn,hH]
 simp only [if_true]
 rw [wFx (f:=fun x=>wAT x b) (p:=fun s=>decide (s.Bib=b)) (fun a _=>rfl) (by omega),wGi hn,hH,wMD l (by omega),hH,if_pos rfl,if_neg (by omega),wCU (by rw [wEr];omega),wIT,hH]
 simp only [if_true]
 have hlast:=wNP (p1:=p1) (m:=m) G G' hn (g:=g) (by omega) (by omega)
 have hr:rem (w64 (f - x0 l)) g=some 0:=by
  rw [wBE (by omega) (by omega),<- hf,show x0 l + (m:Int) * g - x0 l=(m:Int) * g by omega,rem,if_neg (by omega)]
  simp
 have F':=F.no
 rw [hf] at F'
 by_cases h0:0 < l.length
 ·have e0:x0 l=(gd l 0).Time:=if_pos h0
  have hi0:idx l 0=some (gd l 0):=wCU (k:=0) h0
  rw [if_pos (by omega),hi0,hH,<- e0,if_neg (by omega),hr,hH,if_pos rfl,wFz (by omega),F',hH,if_neg (by simp),<- hf]
  exact wIU (by omega) hx.1 (by omega) (by omega) (by omega) F _ (by rw [hf];exact hlast)
 ·have e0:x0 l=0:=if_neg h0
  rw [e0] at hr
  rw [if_neg (by omega),if_neg (by omega),hr,hH,if_pos rfl,wFz (by omega),F',hH,if_neg (by simp),<- hf,e0]
  rw [e0] at F hx hf
  exact wIU (by omega) (by omega) (by omega) (by omega) (by omega) F _ (by rw [hf];exact hlast)
end Go.Proofs.YtapddcoodhijpaaGreat
