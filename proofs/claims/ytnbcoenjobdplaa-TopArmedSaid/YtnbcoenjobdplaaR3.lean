import Derived.Test.YtnbcoenjobdplaaR0
import Derived.Shelf.SlSortCmp.NoneTotal
import Derived.Shelf.Sort.Plain
import Derived.Shelf.Slices.In.SortNone
import Derived.Ground.SlsfProg
import Derived.Test.YtnbcoenjobdplaaProg
set_option linter.all false
open List renaming flatMap->hD,mem_of_getElem?->hM,attach_map_subtype_val->nA,getElem?_eq_getElem->nB,getElem?_take->nH
open Array renaming getElem?_modify->nD,getElem?_toList->nE,getElem?_mapIdx->nG,ext_getElem?->nI
open Option renaming map_some->nJ
namespace Go.KL
open Go.RowKit
theorem wGO (w:World) (n b:Nat) (F:Array Value) (os:Array Obj):Keep w (Go.Sort.grow (Go.Sort.putRow id (Go.Sort.ahead w n) b 0 F) os) (·=b):=by
 refine ⟨rfl,⟨rfl,Nat.le_add_right _ _⟩,rfl,?_,fun k hk hx=>?_⟩
 ·rw [Go.Sort.size_grow,Go.Sort.size_putRow]
  exact Nat.le_add_right _ _
 ·rw [Go.Sort.heap_grow_old _ _ (by rw [Go.Sort.size_putRow];exact hk)]
  show ((Go.Sort.ahead w n).heap.modify b _)[k]?=_
  rw [nD,if_neg fun e=>hx e.symm]
  rfl
section
variable {B:Base} {U:PHeap} {L:List Res} {w:World}
theorem St.sorted (h:St B U L w) {k b c T sz n:Nat} {cs cs':List Value} {os:Array Obj} (hk:L[k]?=some (.row (some ⟨b,0,none⟩) c T sz cs)) (hl:cs'.length=cs.length) :
  St B U (L.set k (.row (some ⟨b,0,none⟩) c T sz cs')) (Go.Sort.grow (Go.Sort.putRow id (Go.Sort.ahead w n) b 0 cs'.toArray) os):=by
 rcases h.at_ _ (hM hk) with ⟨h0,_⟩ | ⟨b',cur,e,h1,h2,h3,h4,h5⟩
 ·cases h0
 ·cases e
  refine h.set hk ((wGO w n b _ os).weak fun i _ e=>by subst e;rfl) (.inr ⟨b,Go.Sort.putCells id 0 cs'.toArray cur,rfl,?_,by rw [hl];exact h2,h3,?_,?_⟩) fun x hx=>.inl hx
  ·rw [Go.Sort.heap_grow_old _ _ (by rw [Go.Sort.size_putRow];exact wBA h1)]
   show ((Go.Sort.ahead w n).heap.modify b _)[b]?=_
   rw [nD,if_pos rfl,Go.Sort.heap_ahead,h1]
   rfl
  ·simp [Go.Sort.putCells,h4]
  ·apply List.ext_getElem?
   intro j
   rw [nH]
   by_cases hj:j < cs'.length
   ·rw [if_pos hj,nE]
    simp only [Go.Sort.putCells,nG]
    have hc:j < cur.size:=by omega
    rw [Array.getElem?_eq_getElem hc,nJ,if_pos ⟨Nat.zero_le _,by simpa using hj⟩,nB hj]
    simp [hj]
   ·rw [if_neg hj,List.getElem?_eq_none (by omega)]
theorem St.holds (h:St B U L w) {k b c T sz:Nat} {cs:List Value} (hk:L[k]?=some (.row (some ⟨b,0,none⟩) c T sz cs)):Go.Sort.Holds id w b 0 cs.toArray/\b < w.heap.size:=by
 rcases h.at_ _ (hM hk) with ⟨h0,_⟩ | ⟨b',cur,e,h1,h2,h3,h4,h5⟩
 ·cases h0
 ·cases e
  refine ⟨fun j hj=>?_,wBA h1⟩
  have hj:j < cs.length:=by simpa using hj
  constructor
  ·have this:(cur.toList.take cs.length)[j]?=cs[j]?:=congrArg (·[j]?) h5
   rw [nH,if_pos hj,nE,nB hj] at this
   simp [World.cell?,h1,this,hj]
  ·simp [World.frozen?,h1]
end
theorem wGi {α:Type} {f:α->Value} (l:List α):l.flatMap (fun x=>[f x])=l.map f:=by
 induction l with
 | nil=>rfl
 | cons a l ih=>simp [ih]
section
variable {α:Type} [Inhabited α]
theorem wFX (f:α->Value) (w:World) (b off:Nat) (d:Array α):Go.Sort.putRow f w b off d=Go.Sort.putRow id w b off (d.map f):=by
 unfold Go.Sort.putRow
 refine Go.Sort.mapBlock_congr w b _ _ fun c _ _ _=>?_
 unfold Go.Sort.putCells
 apply nI
 intro k
 simp only [nG,Array.size_map]
 cases c[k]? with
 | none=>rfl
 | some x =>
  simp only [nJ]
  by_cases hr:off <= k/\k < off + d.size
  ·rw [if_pos hr,if_pos hr,getElem!_pos d _ (by omega),getElem!_pos (d.map f) _ (by simp;omega)]
   simp
  ·rw [if_neg hr,if_neg hr]
theorem wIR (f:α->Value) (w:World) (b off:Nat) (d:Array α) (h:Go.Sort.Holds id w b off (d.map f)):Go.Sort.Holds f w b off d:=fun j hj=>by
 have:=h j (by simpa using hj)
 rw [getElem!_pos (d.map f) _ (by simpa using hj)] at this
 rw [getElem!_pos d _ hj]
 simpa using this
end
theorem wIS {w w':World} (k:Keep w w' Non):∃ q os',w'=Go.Sort.grow (w.drewN q) os':=by
 refine ⟨w'.drawn - w.drawn,w'.heap.extract w.heap.size w'.heap.size,?_⟩
 obtain ⟨h1,⟨h2,h3⟩,h4,h5,h6⟩:=k
 obtain ⟨heap,tape,drawn,os,output⟩:=w
 obtain ⟨heap',tape',drawn',os',output'⟩:=w'
 simp only at h1 h2 h3 h4 h5 h6
 subst h1 h2 h4
 simp only [Go.Sort.grow,World.drewN,World.mk.injEq,and_true]
 refine ⟨?_,trivial,show drawn'=drawn + (drawn' - drawn) by omega⟩
 apply nI
 intro i
 rw [Array.getElem?_append]
 split
 ·rename_i hi
  exact h6 i hi id
 ·rename_i hi
  rw [Array.getElem?_extract]
  rcases Nat.lt_or_ge i heap'.size with hl | hl
  ·rw [if_pos (by omega)]
   congr 1
   omega
  ·rw [if_neg (by omega),Array.getElem?_eq_none hl]
section
variable {α:Type} {h:α × α->Option Int} {l:List α}
def wJR (h:α × α->Option Int) (l:List α) (x y:{x:α // x ∈ l}):Int:=(h (x.1,y.1)).getD 0
theorem wDN (c:Cmp h l) (x y:{x:α // x ∈ l}):Go.Proofs.ltOf (wJR h l) x y=ltB h x.1 y.1:=by
 have:=c.2.1 x.1 x.2 y.1 y.2
 unfold Go.Proofs.ltOf wJR ltB
 cases e:h (x.1,y.1) with
 | none=>rw [e] at this;cases this
 | some n=>rfl
theorem wJX (c:Cmp h l):Go.Sort.SWO (Go.Proofs.ltOf (wJR h l)) where
 irrefl x:=by rw [wDN c];exact c.2.2.1 x.1 x.2
 trans x y z:=by rw [wDN c,wDN c,wDN c];exact c.2.2.2.1 x.1 x.2 y.1 y.2 z.1 z.2
 ntrans x y z:=by rw [wDN c,wDN c,wDN c];exact c.2.2.2.2.1 x.1 x.2 y.1 y.2 z.1 z.2
theorem wIT (c:Cmp h l) (x y:{x:α // x ∈ l}) (h1:Go.Proofs.ltOf (wJR h l) x y=false) (h2:Go.Proofs.ltOf (wJR h l) y x=false):x=y:=by
 rw [wDN c] at h1 h2
 exact Subtype.ext (c.2.2.2.2.2 x.1 x.2 y.1 y.2 h1 h2)
theorem wIU (c:Cmp h l):(l.attach.mergeSort fun x y=>!Go.Proofs.ltOf (wJR h l) y x).map Subtype.val=l.mergeSort fun x y=>!ltB h y x:=by
 rw [List.map_mergeSort (s:=fun x y=>!ltB h y x) (fun a _ b _=>by rw [wDN c])]
 rw [nA]
theorem wHf {β:Type} (c:Cmp h l) (g:α->β):(l.attach.mergeSort fun x y=>!Go.Proofs.ltOf (wJR h l) y x).map (fun x=>g x.1)=(l.mergeSort fun x y=>!ltB h y x).map g:=by
 rw [<- wIU c,List.map_map]
 rfl
theorem wGj {β:Type} (g:α->β):l.attach.map (fun x=>g x.1)=l.map g:=by
 have:=congrArg (List.map g) (nA l)
 rw [List.map_map] at this
 exact this
end
theorem St.other {B:Base} {U:PHeap} {L:List Res} {w w':World} (h:St B U L w) {k b c T sz:Nat} {cs:List Value} (hk:L[k]?=some (.row (some ⟨b,0,none⟩) c T sz cs)) (K:Keep w w' (·=b)):St ⟨w',[],U⟩ U [] w' where
 os:=rfl
 tape:=TapeLe.refl w'
 output:=rfl
 size:=Nat.le_refl _
 old:=fun _ _ _=>rfl
 fro:=fun x o hx=>(K.block x (wBA (h.fro x o hx)) fun e=>by
  have:=(h.own _ (hM hk) b rfl).1
  subst e
  rw [hx] at this
  cases this).trans (h.fro x o hx)
 le:=fun _ _ h=>h
 src:=fun _ _ h=>.inl h
 at_:=fun _ h=>by cases h
 own:=fun _ h=>by cases h
 dj:=fun i j r s b h=>by simp at h
section
variable {P:Program} {f T:Nat} {A:Option Addr} {c:Nat} {w:World} {U:PHeap} {v:Value}
theorem wIV {α:Type} {h:α × α->Option Int} {AR:PHeap->α × α->List Value->Prop} {RR:PHeap->List Res->Value->Int->Prop} {B:Base} {L:List Res} {w w':World} {g b k:Nat} {cap cs:List Value} {val:α->Value} {sz:Nat}
  (hg:∀ U1 w1 x y vs,PHeap.Le U U1->St ⟨w1,[],U1⟩ U1 [] w1->AR U1 x vs->h x=some y->Gv P g ([] ++ vs ++ cap) w1 (wBm w1 [] U1 fun U_ L_ v=>RR U_ L_ v y))
  (hA:∀ U1 x y,AR U1 (x,y) [val x,val y]) (hR:∀ U1 L v n,RR U1 L v n->v=.int .i64 n) (hS:St B U L w) (hk:L[k]?=some (.row (some ⟨b,0,none⟩) c T sz cs)) (K:Keep w w' (·=b)) {x y:α} {n:Int} (hn:h (x,y)=some n) :
  Calls P g (#[val x,val y] ++ cap.toArray) w' fun e w2=>e=.returned (.int .i64 n)/\∃ q os',w2=Go.Sort.grow (w'.drewN q) os':=by
 have:=hg U w' (x,y) n _ (PHeap.Le.refl U) (hS.other hk K) (hA U x y) hn
 have e:([] ++ [val x,val y] ++ cap).toArray=#[val x,val y] ++ cap.toArray:=by simp
 unfold Gv at this
 rw [e] at this
 refine Calls.mono' this ?_
 rintro e w2 ⟨v,rfl,U',L',h1,h2⟩
 rw [hR _ _ _ _ h2]
 exact ⟨rfl,wIS h1.kp0⟩
theorem wIW {α:Type} {enc1:α->Value} {enc:α->List Value} {p r:List α} {h:α × α->Option Int} {AR:PHeap->α × α->List Value->Prop} {RR:PHeap->List Res->Value->Int->Prop} (he:∀ x,enc x=[enc1 x]) (ho:∀ x,(enc1 x).oneCell'=true)
  (hA:∀ U1 x y,AR U1 (x,y) [enc1 x,enc1 y]) (hR:∀ U1 L v n,RR U1 L v n->v=.int .i64 n)
  (H:∀ {α:Type} [Inhabited α] (enc:α->Value) (_:Go.Proofs.OneCell enc) (cf:α->α->Int) (_:Go.Sort.SWO (Go.Proofs.ltOf cf)) (g:Nat) (cb:Array Value) (blk off cap:Nat) (d:Array α) (w:World),(∀ args w,(callFunc g args).run P w=.ok (.enter g args) w) ->
   Go.Proofs.CmpLays1 P g cb enc cf blk off d.size w->Go.Sort.Holds enc w blk off d->blk < w.heap.size->d.size < 4611686018427387904->(∀ x y,(Go.Proofs.ltOf cf) x y=false->(Go.Proofs.ltOf cf) y x=false->x=y) ->
   Calls P f #[.slice (some ⟨blk,off,none⟩) d.size cap,.func (.func g) #[] cb] w fun e w'=>e=.returned (.tuple #[])/\∃ n os,w'=Go.Proofs.sortWorld enc w blk off n (d.toList.mergeSort fun x y=>!(Go.Proofs.ltOf cf) y x).toArray os)
  (HN:∀ (p:Option Addr) (cap:Nat) (fv:Value) (w:World),Calls P f #[.slice p 0 cap,fv] w fun e w'=>e=.returned (.tuple #[])/\w'=w)
  (hS:St ⟨w,[.row A c T 1 (hD enc p)],U⟩ U [.row A c T 1 (hD enc p)] w) (hF:FnOK P U v AR RR h) (hv:∃ g cb,v=.func (.func g) #[] cb) (hm:wIQ h p=some r) :
  Gv P f [.slice A p.length c,v] w (wBm w [.row A c T 1 (hD enc p)] U fun U_ L_ v=>v=.tuple #[]/\L_=[.row A c T 1 (hD enc r)]/\r.length=p.length):=by
 obtain ⟨hc,rfl⟩:=wHd hm
 have hfl:∀ l:List α,l.flatMap enc=l.map enc1:=fun l=>by rw [show enc=fun x=>[enc1 x] from funext he];exact wGi l
 have nil:p=[]->Gv P f [.slice A p.length c,v] w (wBm w [.row A c T 1 (hD enc p)] U fun U_ L_ v=>v=.tuple #[]/\L_=[.row A c T 1 (hD enc (p.mergeSort fun x y=>!ltB h y x))]/\(p.mergeSort fun x y=>!ltB h y x).length=p.length):=by
  rintro rfl
  refine Calls.mono' (HN A c v w) ?_
  rintro e w' ⟨rfl,rfl⟩
  exact ⟨_,rfl,U,_,hS,rfl,by simp,by simp⟩
 rcases hS.at_ _ (List.mem_cons_self ..) with ⟨rfl,rfl,h0⟩ | ⟨b,cur,rfl,_⟩
 ·refine nil ?_
  rw [hfl] at h0
  simpa using h0
 ·cases hp:p with
  | nil=>rw [<- hp];exact nil hp
  | cons x0 p0 =>
   rw [<- hp]
   haveI:Inhabited {x:α // x ∈ p}:=⟨⟨x0,by rw [hp];simp⟩⟩
   obtain ⟨h1,h2⟩:=hS.holds (k:=0) rfl
   rw [hfl] at h1
   obtain ⟨gid,fst,cap,e,hcf,hg⟩:=hF
   obtain ⟨g,cb,rfl⟩:=hv
   simp only [Value.func.injEq,Fn.func.injEq] at e
   obtain ⟨rfl,e2,rfl⟩:=e
   have e2:fst=[]:=by simpa using e2.symm
   subst e2
   have hH:Go.Sort.Holds (fun x:{x:α // x ∈ p}=>enc1 x.1) w b 0 p.attach.toArray:=wIR _ _ _ _ _ (by
    have:=wGj (l:=p) enc1
    rw [List.map_toArray,this]
    exact h1)
   have hl:=hc.1
   have:=H (fun x:{x:α // x ∈ p}=>enc1 x.1) (fun (x:{x:α // x ∈ p})=>ho x.1) (wJR h p) (wJX hc) g cap.toArray b 0 c p.attach.toArray w hcf (fun m os dk _ x y=>?_) hH h2 (by simpa using hl) (wIT hc)
   ·simp only [List.size_toArray,List.length_attach] at this
    refine Calls.mono' this ?_
    rintro e w' ⟨rfl,n,os,rfl⟩
    refine ⟨_,rfl,U,_,?_,rfl,rfl,by simp⟩
    unfold Go.Proofs.sortWorld
    rw [wFX,List.map_toArray,wHf hc enc1,hfl (p.mergeSort fun x y=>!ltB h y x)]
    have:=hS.sorted (k:=0) (n:=n) (os:=os) (cs':=(p.mergeSort fun x y=>!ltB h y x).map enc1) rfl (by rw [hfl];simp)
    simpa using this
   ·have K:Keep w (Go.Proofs.sortWorld (fun x:{x:α // x ∈ p}=>enc1 x.1) w b 0 m dk os) (·=b):=by
     unfold Go.Proofs.sortWorld
     rw [wFX]
     exact wGO w m b _ os
    have hs:=hc.2.1 x.1 x.2 y.1 y.2
    obtain ⟨n,hn⟩:=Option.isSome_iff_exists.1 hs
    have hcn:wJR h p x y=n:=by unfold wJR;rw [hn];rfl
    rw [hcn]
    exact wIV hg hA hR hS (k:=0) rfl K hn
end
end Go.KL
namespace Go.Proofs
open Go.Shelf
def Try.laysSlF06_f42_ren:Go.Shelf.Ren:=⟨fun | 6=>42 | 15=>63 | 14=>62 | 28=>81 | 29=>82 | 20=>73 | 21=>74 | 22=>75 | 23=>76 | 24=>77 | 25=>78 | 26=>79 | 27=>80 | 46=>87 | 47=>88 | 48=>89 | 49=>90 | 50=>91 | 57=>93 | n=>n,fun | 22=>28 | 24=>3 | 25=>31 | 3=>3 | 39=>114 | 0=>0 | 53=>51 | 55=>128 | 4=>4 | 46=>121 | 45=>120 | 50=>62 | 5=>5 | 9=>9 | 66=>129 | 70=>133 | 76=>136 | 77=>137 | n=>n,fun | n=>n⟩
theorem Try.laysSlF06_f42:Go.Proofs.SlLaysF0.n6 Try.prog Try.laysSlF06_f42_ren:={
 mixed:=by kernel_rfl
 f6:=⟨Try.f42.name,by decide,Try.func42.trans (congrArg some (by kernel_rfl))⟩
 f14:=⟨Try.f62.name,by decide,Try.func62.trans (congrArg some (by kernel_rfl))⟩
 f15:=Try.func63.trans (congrArg some (by kernel_rfl))
 f20:=⟨Try.f73.name,by decide,Try.func73.trans (congrArg some (by kernel_rfl))⟩
 f21:=⟨Try.f74.name,by decide,Try.func74.trans (congrArg some (by kernel_rfl))⟩
 f22:=⟨Try.f75.name,by decide,Try.func75.trans (congrArg some (by kernel_rfl))⟩
 f23:=⟨Try.f76.name,by decide,Try.func76.trans (congrArg some (by kernel_rfl))⟩
 f24:=⟨Try.f77.name,by decide,Try.func77.trans (congrArg some (by kernel_rfl))⟩
 f25:=⟨Try.f78.name,by decide,Try.func78.trans (congrArg some (by kernel_rfl))⟩
 f26:=⟨Try.f79.name,by decide,Try.func79.trans (congrArg some (by kernel_rfl))⟩
 f27:=⟨Try.f80.name,by decide,Try.func80.trans (congrArg some (by kernel_rfl))⟩
 f28:=Try.func81.trans (congrArg some (by kernel_rfl))
 f29:=Try.func82.trans (congrArg some (by kernel_rfl))
 f46:=⟨Try.f87.name,by decide,Try.func87.trans (congrArg some (by kernel_rfl))⟩
 f47:=Try.func88.trans (congrArg some (by kernel_rfl))
 f48:=Try.func89.trans (congrArg some (by kernel_rfl))
 f49:=⟨Try.f90.name,by decide,Try.func90.trans (congrArg some (by kernel_rfl))⟩
 f50:=⟨Try.f91.name,by decide,Try.func91.trans (congrArg some (by kernel_rfl))⟩
 f57:=⟨Try.f93.name,by decide,Try.func93.trans (congrArg some (by kernel_rfl))⟩
 t0:=Try.underlying0
 a0:=Try.isAgg0
 z0:=Try.sizeOf0
 v0:=Try.zeroValue0
 t3:=Try.underlying3
 a3:=Try.isAgg3
 z3:=Try.sizeOf3
 v3:=Try.zeroValue3
 t4:=Try.underlying4
 a4:=Try.isAgg4
 z4:=Try.sizeOf4
 v4:=Try.zeroValue4
 t5:=Try.underlying5
 a5:=Try.isAgg5
 z5:=Try.sizeOf5
 v5:=Try.zeroValue5
 t9:=Try.underlying9
 a9:=Try.isAgg9
 z9:=Try.sizeOf9
 v9:=Try.zeroValue9
 t22:=Try.underlying28
 a22:=Try.isAgg28
 z22:=Try.sizeOf28
 v22:=Try.zeroValue28
 t25:=Try.underlying31
 a25:=Try.isAgg31
 z25:=Try.sizeOf31
 v25:=Try.zeroValue31
 t39:=Try.underlying114
 a39:=Try.isAgg114
 z39:=Try.sizeOf114
 v39:=Try.zeroValue114
 t45:=Try.underlying120
 a45:=Try.isAgg120
 z45:=Try.sizeOf120
 v45:=Try.zeroValue120
 t46:=Try.underlying121
 a46:=Try.isAgg121
 z46:=Try.sizeOf121
 v46:=Try.zeroValue121
 t50:=Try.underlying62
 a50:=Try.isAgg62
 z50:=Try.sizeOf62
 v50:=Try.zeroValue62
 t53:=Try.underlying51
 a53:=Try.isAgg51
 z53:=Try.sizeOf51
 v53:=Try.zeroValue51
 t55:=Try.underlying128
 a55:=Try.isAgg128
 z55:=Try.sizeOf128
 v55:=Try.zeroValue128
 t66:=Try.underlying129
 a66:=Try.isAgg129
 z66:=Try.sizeOf129
 v66:=Try.zeroValue129
 t70:=Try.underlying133
 a70:=Try.isAgg133
 z70:=Try.sizeOf133
 v70:=Try.zeroValue133
 t76:=Try.underlying136
 a76:=Try.isAgg136
 z76:=Try.sizeOf136
 v76:=Try.zeroValue136
 t77:=Try.underlying137
 a77:=Try.isAgg137
 z77:=Try.sizeOf137
 v77:=Try.zeroValue137 }
open Go.RowKit Go.Lib Go.Sort in
theorem Try.slices_SortFunc_none {α:Type} [Inhabited α] (p:Option Addr) (cap:Nat) (fv:Value) (w:World) :
  Calls Try.prog 42 #[.slice p 0 cap,fv] w fun e w'=>e=.returned (.tuple #[])/\w'=w:=AnyF.slices_SortFunc_none Try.laysSlF06_f42 p cap fv w
def Try.laysSlF6_f42_ren:Go.Shelf.Ren:=⟨fun | 6=>42 | 15=>63 | 14=>62 | 28=>81 | 29=>82 | 20=>73 | 21=>74 | 22=>75 | 23=>76 | 24=>77 | 25=>78 | 26=>79 | 27=>80 | 46=>87 | 47=>88 | 48=>89 | 49=>90 | 50=>91 | 57=>93 | n=>n,fun | 22=>28 | 24=>3 | 25=>31 | 3=>3 | 39=>114 | 0=>0 | 53=>51 | 55=>128 | 4=>4 | 46=>121 | 45=>120 | 50=>62 | 5=>5 | 9=>9 | 66=>129 | 70=>133 | 76=>136 | 77=>137 | n=>n,fun | n=>n⟩
theorem Try.laysSlF6_f42:Go.Proofs.SlLaysF.n6 Try.prog Try.laysSlF6_f42_ren:={
 mixed:=by kernel_rfl
 f6:=⟨Try.f42.name,by decide,Try.func42.trans (congrArg some (by kernel_rfl))⟩
 f14:=⟨Try.f62.name,by decide,Try.func62.trans (congrArg some (by kernel_rfl))⟩
 f15:=Try.func63.trans (congrArg some (by kernel_rfl))
 f20:=⟨Try.f73.name,by decide,Try.func73.trans (congrArg some (by kernel_rfl))⟩
 f21:=⟨Try.f74.name,by decide,Try.func74.trans (congrArg some (by kernel_rfl))⟩
 f22:=⟨Try.f75.name,by decide,Try.func75.trans (congrArg some (by kernel_rfl))⟩
 f23:=⟨Try.f76.name,by decide,Try.func76.trans (congrArg some (by kernel_rfl))⟩
 f24:=⟨Try.f77.name,by decide,Try.func77.trans (congrArg some (by kernel_rfl))⟩
 f25:=⟨Try.f78.name,by decide,Try.func78.trans (congrArg some (by kernel_rfl))⟩
 f26:=⟨Try.f79.name,by decide,Try.func79.trans (congrArg some (by kernel_rfl))⟩
 f27:=⟨Try.f80.name,by decide,Try.func80.trans (congrArg some (by kernel_rfl))⟩
 f28:=Try.func81.trans (congrArg some (by kernel_rfl))
 f29:=Try.func82.trans (congrArg some (by kernel_rfl))
 f46:=⟨Try.f87.name,by decide,Try.func87.trans (congrArg some (by kernel_rfl))⟩
 f47:=Try.func88.trans (congrArg some (by kernel_rfl))
 f48:=Try.func89.trans (congrArg some (by kernel_rfl))
 f49:=⟨Try.f90.name,by decide,Try.func90.trans (congrArg some (by kernel_rfl))⟩
 f50:=⟨Try.f91.name,by decide,Try.func91.trans (congrArg some (by kernel_rfl))⟩
 f57:=⟨Try.f93.name,by decide,Try.func93.trans (congrArg some (by kernel_rfl))⟩
 t0:=Try.underlying0
 a0:=Try.isAgg0
 z0:=Try.sizeOf0
 v0:=Try.zeroValue0
 t3:=Try.underlying3
 a3:=Try.isAgg3
 z3:=Try.sizeOf3
 v3:=Try.zeroValue3
 t4:=Try.underlying4
 a4:=Try.isAgg4
 z4:=Try.sizeOf4
 v4:=Try.zeroValue4
 t5:=Try.underlying5
 a5:=Try.isAgg5
 z5:=Try.sizeOf5
 v5:=Try.zeroValue5
 t9:=Try.underlying9
 a9:=Try.isAgg9
 z9:=Try.sizeOf9
 v9:=Try.zeroValue9
 t22:=Try.underlying28
 a22:=Try.isAgg28
 z22:=Try.sizeOf28
 v22:=Try.zeroValue28
 a24:=Try.isAgg3
 z24:=Try.sizeOf3
 t25:=Try.underlying31
 a25:=Try.isAgg31
 z25:=Try.sizeOf31
 v25:=Try.zeroValue31
 t39:=Try.underlying114
 a39:=Try.isAgg114
 z39:=Try.sizeOf114
 v39:=Try.zeroValue114
 t45:=Try.underlying120
 a45:=Try.isAgg120
 z45:=Try.sizeOf120
 v45:=Try.zeroValue120
 t46:=Try.underlying121
 a46:=Try.isAgg121
 z46:=Try.sizeOf121
 v46:=Try.zeroValue121
 t50:=Try.underlying62
 a50:=Try.isAgg62
 z50:=Try.sizeOf62
 v50:=Try.zeroValue62
 t53:=Try.underlying51
 a53:=Try.isAgg51
 z53:=Try.sizeOf51
 v53:=Try.zeroValue51
 t55:=Try.underlying128
 a55:=Try.isAgg128
 z55:=Try.sizeOf128
 v55:=Try.zeroValue128
 t66:=Try.underlying129
 a66:=Try.isAgg129
 z66:=Try.sizeOf129
 v66:=Try.zeroValue129
 t70:=Try.underlying133
 a70:=Try.isAgg133
 z70:=Try.sizeOf133
 v70:=Try.zeroValue133
 t76:=Try.underlying136
 a76:=Try.isAgg136
 z76:=Try.sizeOf136
 v76:=Try.zeroValue136
 t77:=Try.underlying137
 a77:=Try.isAgg137
 z77:=Try.sizeOf137
 v77:=Try.zeroValue137 }
open Go.RowKit Go.Lib Go.Sort in
theorem Try.slices_SortFunc_total {α:Type} [Inhabited α] (enc:α->Value) (h1:OneCell enc) (cf:α->α->Int) (hO:SWO (ltOf cf)) (g:Nat) (cb:Array Value) (blk off cap:Nat) (d:Array α) (w:World) (eg:∀ args w,(callFunc g args).run Try.prog w=.ok (.enter g args) w) (hcmp:CmpLays1 Try.prog g cb enc cf blk off d.size w) (hH:Holds enc w blk off d) (hblk:blk < w.heap.size) (hsz:d.size < 4611686018427387904) (hT:∀ x y,(ltOf cf) x y=false->(ltOf cf) y x=false->x=y) :
  Calls Try.prog 42 #[.slice (some ⟨blk,off,none⟩) d.size cap,.func (.func g) #[] cb] w fun e w' =>
   e=.returned (.tuple #[])/\∃ n os,w'=sortWorld enc w blk off n (d.toList.mergeSort fun x y=>!(ltOf cf) y x).toArray os:=Any.slices_SortFunc_total Try.laysSlF6_f42 enc h1 cf hO g cb blk off cap d w eg hcmp hH hblk hsz hT
end Go.Proofs
