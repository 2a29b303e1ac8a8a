import Derived.Test.YtnbcoenjobdplaaGreatC0
import Derived.Shelf.SlSortCmp.NoneTotal
import Derived.Shelf.Sort.Plain
import Derived.Shelf.Slices.In.SortNone
set_option linter.all false
open List renaming flatMap->hD,getElem?_eq_getElem->nA,mem_of_getElem?->nB,attach_map_subtype_val->nE,getElem?_eq_none->nL,getElem?_toArray->nM,getElem?_take->nN,mem_cons_self->nP
open Array renaming ext_getElem?->nD,getElem?_eq_getElem->nG,getElem?_eq_none->nH,getElem?_modify->nI,getElem?_toList->nJ,getElem?_mapIdx->nK
open Go.Value renaming int->nO
open Option renaming map_some->nQ
namespace Go.KL
open Go.RowKit
theorem wKy (w:World) (n b:Nat) (F:Array Value) (os:Array Obj):Keep w (Go.Sort.grow (Go.Sort.putRow id (Go.Sort.ahead w n) b 0 F) os) (·=b):=by
 refine ⟨rfl,⟨rfl,Nat.le_add_right _ _⟩,rfl,?_,fun k hk hx=>?_⟩
 ·rw [Go.Sort.size_grow,Go.Sort.size_putRow]
  exact Nat.le_add_right _ _
 ·rw [Go.Sort.heap_grow_old _ _ (by rw [Go.Sort.size_putRow];exact hk)]
  show ((Go.Sort.ahead w n).heap.modify b _)[k]?=_
  rw [nI,if_neg fun e=>hx e.symm]
  rfl
section
variable {B:Base} {U:PHeap} {L:List Res} {w:World}
theorem St.sorted (h:St B U L w) {k b c T sz n:Nat} {cs cs':List Value} {os:Array Obj} (hk:L[k]?=some (.row (some ⟨b,0,none⟩) c T sz cs)) (hl:cs'.length=cs.length) :
  St B U (L.set k (.row (some ⟨b,0,none⟩) c T sz cs')) (Go.Sort.grow (Go.Sort.putRow id (Go.Sort.ahead w n) b 0 cs'.toArray) os):=by
 rcases h.at_ _ (nB hk) with ⟨h0,_⟩ | ⟨b',cur,e,h1,h2,h3,h4,h5⟩
 ·cases h0
 ·cases e
  refine h.set hk ((wKy w n b _ os).weak fun i _ e=>by subst e;rfl) (.inr ⟨b,Go.Sort.putCells id 0 cs'.toArray cur,rfl,?_,by rw [hl];exact h2,h3,?_,?_⟩) fun x hx=>.inl hx
  ·rw [Go.Sort.heap_grow_old _ _ (by rw [Go.Sort.size_putRow];exact wBo h1)]
   show ((Go.Sort.ahead w n).heap.modify b _)[b]?=_
   rw [nI,if_pos rfl,Go.Sort.heap_ahead,h1]
   rfl
  ·simp [Go.Sort.putCells,h4]
  ·apply List.ext_getElem?
   intro j
   rw [nN]
   by_cases hj:j < cs'.length
   ·rw [if_pos hj,nJ]
    simp only [Go.Sort.putCells,nK]
    have hc:j < cur.size:=by omega
    rw [nG hc,nQ,if_pos ⟨Nat.zero_le _,by simpa using hj⟩,nA hj]
    simp [hj]
   ·rw [if_neg hj,nL (by omega)]
theorem St.holds (h:St B U L w) {k b c T sz:Nat} {cs:List Value} (hk:L[k]?=some (.row (some ⟨b,0,none⟩) c T sz cs)):Go.Sort.Holds id w b 0 cs.toArray/\b < w.heap.size:=by
 rcases h.at_ _ (nB hk) with ⟨h0,_⟩ | ⟨b',cur,e,h1,h2,h3,h4,h5⟩
 ·cases h0
 ·cases e
  refine ⟨fun j hj=>?_,wBo h1⟩
  have hj:j < cs.length:=by simpa using hj
  constructor
  ·have this:(cur.toList.take cs.length)[j]?=cs[j]?:=congrArg (·[j]?) h5
   rw [nN,if_pos hj,nJ,nA hj] at this
   simp [World.cell?,h1,this,hj]
  ·simp [World.frozen?,h1]
end
theorem wJF {α:Type} {f:α->Value} (l:List α):l.flatMap (fun x=>[f x])=l.map f:=by
 induction l with
 | nil=>rfl
 | cons a l ih=>simp [ih]
section
variable {α:Type} [Inhabited α]
theorem wKH (f:α->Value) (w:World) (b off:Nat) (d:Array α):Go.Sort.putRow f w b off d=Go.Sort.putRow id w b off (d.map f):=by
 unfold Go.Sort.putRow
 refine Go.Sort.mapBlock_congr w b _ _ fun c _ _ _=>?_
 unfold Go.Sort.putCells
 apply nD
 intro k
 simp only [nK,Array.size_map]
 cases c[k]? with
 | none=>rfl
 | some x =>
  simp only [nQ]
  by_cases hr:off <= k/\k < off + d.size
  ·rw [if_pos hr,if_pos hr,getElem!_pos d _ (by omega),getElem!_pos (d.map f) _ (by simp;omega)]
   simp
  ·rw [if_neg hr,if_neg hr]
theorem wKz (f:α->Value) (w:World) (b off:Nat) (d:Array α) (h:Go.Sort.Holds id w b off (d.map f)):Go.Sort.Holds f w b off d:=fun j hj=>by
 have:=h j (by simpa using hj)
 rw [getElem!_pos (d.map f) _ (by simpa using hj)] at this
 rw [getElem!_pos d _ hj]
 simpa using this
theorem wMg {f:α->List Value} {k:Nat} (hf:∀ x,(f x).length=k) (d:Array α):Go.Sort.flatK f k d=(d.toList.flatMap f).toArray:=by
 apply nD
 intro i
 have hl:(d.toList.flatMap f).length=d.size * k:=by rw [wAB hf];simp
 rcases Nat.lt_or_ge i (d.size * k) with hi | hi
 ·have hk:0 < k:=by
   rcases Nat.eq_zero_or_pos k with h | h
   ·subst h;omega
   ·exact h
  have hd:i / k < d.size:=(Nat.div_lt_iff_lt_mul hk).2 hi
  have hm:i % k < k:=Nat.mod_lt _ hk
  rw [nG (by simpa using hi),nM]
  have h1:=wFc hf d.toList (i / k) (i % k) (d[i / k]'hd) ((f (d[i / k]'hd))[i % k]'(by rw [hf];exact hm)) (by simp [hd]) (nA _)
  rw [Nat.mul_comm,Nat.div_add_mod] at h1
  rw [h1]
  have h2:=Go.Sort.get_flatK f k d i hi
  rw [getElem!_pos _ _ (by simpa using hi)] at h2
  rw [h2,getElem!_pos d _ hd,getElem!_pos _ _ (by rw [hf];exact hm)]
 ·rw [nH (by simpa using hi),nM,nL (by rw [hl];exact hi)]
end
theorem wOA {w w':World} (k:Keep w w' Non):∃ q os',w'=Go.Sort.grow (w.drewN q) os':=by
 refine ⟨w'.drawn - w.drawn,w'.heap.extract w.heap.size w'.heap.size,?_⟩
 obtain ⟨h1,⟨h2,h3⟩,h4,h5,h6⟩:=k
 obtain ⟨heap,tape,drawn,os,output⟩:=w
 obtain ⟨heap',tape',drawn',os',output'⟩:=w'
 simp only at h1 h2 h3 h4 h5 h6
 subst h1 h2 h4
 simp only [Go.Sort.grow,World.drewN,World.mk.injEq,and_true]
 refine ⟨?_,trivial,show drawn'=drawn + (drawn' - drawn) by omega⟩
 apply nD
 intro i
 rw [Array.getElem?_append]
 split
 ·rename_i hi
  exact h6 i hi id
 ·rename_i hi
  rw [Array.getElem?_extract]
  rcases Nat.lt_or_ge i heap'.size with hl | hl
  ·rw [if_pos (by omega)]
   congr 1
   omega
  ·rw [if_neg (by omega),nH hl]
theorem wOy {P:Program} {f T:Nat} {A:Option Addr} {c:Nat} {p r:List Int} {w:World} {U:PHeap}
  (H:∀ (blk off cap:Nat) (zs:List Int) (w:World),Go.Sort.Holds (nO .i64) w blk off zs.toArray->blk < w.heap.size->zs.length < 4611686018427387904->Calls P f #[.slice (some ⟨blk,off,none⟩) zs.length cap] w fun e w'=>e=.returned (.tuple #[])/\∃ n os,w'=Go.Sort.grow (Go.Sort.putRow (nO .i64) (Go.Sort.ahead w n) blk off (zs.mergeSort fun x y=>decide (x <= y)).toArray) os)
  (HN:∀ (p:Option Addr) (cap:Nat) (w:World),Calls P f #[.slice p 0 cap] w fun e w'=>e=.returned (.tuple #[])/\w'=w)
  (hS:St ⟨w,[.row A c T 1 (hD encI p)],U⟩ U [.row A c T 1 (hD encI p)] w) (hm:wOx p=some r) :
  Gv P f [.slice A p.length c] w (wBD w [.row A c T 1 (hD encI p)] U fun U_ L_ v=>v=.tuple #[]/\L_=[.row A c T 1 (hD encI r)]/\r.length=p.length):=by
 rw [wNy] at hm
 split at hm
 ·rename_i hlen
  cases hm
  have hfl:∀ l:List Int,l.flatMap encI=l.map (nO .i64):=fun l=>wJF l
  have hr:=hS.at_ _ (nP ..)
  have nil:p=[]->Gv P f [.slice A p.length c] w (wBD w [.row A c T 1 (hD encI p)] U fun U_ L_ v=>v=.tuple #[]/\L_=[.row A c T 1 (hD encI (p.mergeSort fun x y=>decide (x <= y)))]/\(p.mergeSort fun x y=>decide (x <= y)).length=p.length):=by
   rintro rfl
   refine Calls.mono' (HN A c w) ?_
   rintro e w' ⟨rfl,rfl⟩
   exact ⟨_,rfl,U,_,hS,rfl,by simp,by simp⟩
  rcases hr with ⟨rfl,rfl,h0⟩ | ⟨b,cur,rfl,_⟩
  ·refine nil ?_
   rw [hfl] at h0
   simpa using h0
  ·obtain ⟨h1,h2⟩:=hS.holds (k:=0) rfl
   rw [hfl] at h1
   refine Calls.mono' (H b 0 c p w (wKz _ _ _ _ _ (by simpa using h1)) h2 hlen) ?_
   rintro e w' ⟨rfl,n,os,rfl⟩
   refine ⟨_,rfl,U,_,?_,rfl,rfl,by simp⟩
   rw [wKH]
   have:=hS.sorted (k:=0) (n:=n) (os:=os) (cs':=(p.mergeSort fun x y=>decide (x <= y)).map (nO .i64)) rfl (by rw [hfl];simp)
   rw [hfl (p.mergeSort fun x y=>decide (x <= y))]
   simpa using this
 ·cases hm
section
variable {α:Type} {h:α × α->Option Int} {l:List α}
def wOz (h:α × α->Option Int) (l:List α) (x y:{x:α // x ∈ l}):Int:=(h (x.1,y.1)).getD 0
theorem wGP (c:Cmp h l) (x y:{x:α // x ∈ l}):Go.Proofs.ltOf (wOz h l) x y=ltB h x.1 y.1:=by
 have:=c.2.1 x.1 x.2 y.1 y.2
 unfold Go.Proofs.ltOf wOz ltB
 cases e:h (x.1,y.1) with
 | none=>rw [e] at this;cases this
 | some n=>rfl
theorem wPA (c:Cmp h l):Go.Sort.SWO (Go.Proofs.ltOf (wOz h l)) where
 irrefl x:=by rw [wGP c];exact c.2.2.1 x.1 x.2
 trans x y z:=by rw [wGP c,wGP c,wGP c];exact c.2.2.2.1 x.1 x.2 y.1 y.2 z.1 z.2
 ntrans x y z:=by rw [wGP c,wGP c,wGP c];exact c.2.2.2.2.1 x.1 x.2 y.1 y.2 z.1 z.2
theorem wOB (c:Cmp h l) (x y:{x:α // x ∈ l}) (h1:Go.Proofs.ltOf (wOz h l) x y=false) (h2:Go.Proofs.ltOf (wOz h l) y x=false):x=y:=by
 rw [wGP c] at h1 h2
 exact Subtype.ext (c.2.2.2.2.2 x.1 x.2 y.1 y.2 h1 h2)
theorem wOC (c:Cmp h l):(l.attach.mergeSort fun x y=>!Go.Proofs.ltOf (wOz h l) y x).map Subtype.val=l.mergeSort fun x y=>!ltB h y x:=by
 rw [List.map_mergeSort (s:=fun x y=>!ltB h y x) (fun a _ b _=>by rw [wGP c])]
 rw [nE]
end
theorem St.other {B:Base} {U:PHeap} {L:List Res} {w w':World} (h:St B U L w) {k b c T sz:Nat} {cs:List Value} (hk:L[k]?=some (.row (some ⟨b,0,none⟩) c T sz cs)) (K:Keep w w' (·=b)):St ⟨w',[],U⟩ U [] w' where
 os:=rfl
 tape:=TapeLe.refl w'
 output:=rfl
 size:=Nat.le_refl _
 old:=fun _ _ _=>rfl
 fro:=fun x o hx=>(K.block x (wBo (h.fro x o hx)) fun e=>by
  have:=(h.own _ (nB hk) b rfl).1
  subst e
  rw [hx] at this
  cases this).trans (h.fro x o hx)
 le:=fun _ _ h=>h
 src:=fun _ _ h=>.inl h
 at_:=fun _ h=>by cases h
 own:=fun _ h=>by cases h
 dj:=fun i j r s b h=>by simp at h
section
variable {P:Program} {f T:Nat} {A:Option Addr} {c:Nat} {w:World} {U:PHeap} {v:Value}
theorem wOD {α:Type} {h:α × α->Option Int} {AR:PHeap->α × α->List Value->Prop} {RR:PHeap->List Res->Value->Int->Prop} {B:Base} {L:List Res} {w w':World} {g b k:Nat} {cap cs:List Value} {val:α->Value} {sz:Nat}
  (hg:∀ U1 w1 x y vs,PHeap.Le U U1->St ⟨w1,[],U1⟩ U1 [] w1->AR U1 x vs->h x=some y->Gv P g ([] ++ vs ++ cap) w1 (wBD w1 [] U1 fun U_ L_ v=>RR U_ L_ v y))
  (hA:∀ U1 x y,AR U1 (x,y) [val x,val y]) (hR:∀ U1 L v n,RR U1 L v n->v=.int .i64 n) (hS:St B U L w) (hk:L[k]?=some (.row (some ⟨b,0,none⟩) c T sz cs)) (K:Keep w w' (·=b)) {x y:α} {n:Int} (hn:h (x,y)=some n) :
  Calls P g (#[val x,val y] ++ cap.toArray) w' fun e w2=>e=.returned (.int .i64 n)/\∃ q os',w2=Go.Sort.grow (w'.drewN q) os':=by
 have:=hg U w' (x,y) n _ (PHeap.Le.refl U) (hS.other hk K) (hA U x y) hn
 have e:([] ++ [val x,val y] ++ cap).toArray=#[val x,val y] ++ cap.toArray:=by simp
 unfold Gv at this
 rw [e] at this
 refine Calls.mono' this ?_
 rintro e w2 ⟨v,rfl,U',L',h1,h2⟩
 rw [hR _ _ _ _ h2]
 exact ⟨rfl,wOA h1.kp0⟩
theorem wLA {α:Type} [DecidableEq α] {sz:Nat} {enc:α->List Value} {p r:List α} {h:α × α->Option Int} {AR:PHeap->α × α->List Value->Prop} {RR:PHeap->List Res->Value->Int->Prop} (he:∀ x,(enc x).length=sz) (ho:∀ x,∀ v ∈ enc x,v.oneCell'=true)
  (hA:∀ U1 x y,AR U1 (x,y) [.agg (enc x).toArray,.agg (enc y).toArray]) (hR:∀ U1 L v n,RR U1 L v n->v=.int .i64 n)
  (H:∀ {α:Type} [Inhabited α] (enc:α->List Value) (_:∀ x,(enc x).length=sz) (_:∀ x,∀ v ∈ enc x,v.oneCell'=true) (cf:α->α->Int) (_:Go.Sort.SWO (Go.Proofs.ltOf cf)) (g:Nat) (cb:Array Value) (blk off cap:Nat) (d:Array α) (w:World),(∀ args w,(callFunc g args).run P w=.ok (.enter g args) w) ->
   Go.Proofs.CmpLays P g cb enc sz cf blk off d.size w->Go.Sort.HoldsK enc sz w blk off d->blk < w.heap.size->d.size < 4611686018427387904->(∀ x y,(Go.Proofs.ltOf cf) x y=false->(Go.Proofs.ltOf cf) y x=false->x=y) ->
   Calls P f #[.slice (some ⟨blk,off,none⟩) d.size cap,.func (.func g) #[] cb] w fun e w'=>e=.returned (.tuple #[])/\∃ n os,w'=Go.Proofs.sortWorldK enc sz w blk off n (d.toList.mergeSort fun x y=>!(Go.Proofs.ltOf cf) y x).toArray os)
  (HN:∀ (p:Option Addr) (cap:Nat) (fv:Value) (w:World),Calls P f #[.slice p 0 cap,fv] w fun e w'=>e=.returned (.tuple #[])/\w'=w)
  (hS:St ⟨w,[.row A c T sz (hD enc p)],U⟩ U [.row A c T sz (hD enc p)] w) (hF:FnOK P U v AR RR h) (hz:0 < sz) (hv:∃ g cb,v=.func (.func g) #[] cb) (hm:wNz h p=some r) :
  Gv P f [.slice A p.length c,v] w (wBD w [.row A c T sz (hD enc p)] U fun U_ L_ v=>v=.tuple #[]/\L_=[.row A c T sz (hD enc r)]/\r.length=p.length):=by
 obtain ⟨hc,rfl⟩:=wNP hm
 have nil:p=[]->Gv P f [.slice A p.length c,v] w (wBD w [.row A c T sz (hD enc p)] U fun U_ L_ v=>v=.tuple #[]/\L_=[.row A c T sz (hD enc (p.mergeSort fun x y=>!ltB h y x))]/\(p.mergeSort fun x y=>!ltB h y x).length=p.length):=by
  rintro rfl
  refine Calls.mono' (HN A c v w) ?_
  rintro e w' ⟨rfl,rfl⟩
  exact ⟨_,rfl,U,_,hS,rfl,by simp,by simp⟩
 rcases hS.at_ _ (nP ..) with ⟨rfl,rfl,h0⟩ | ⟨b,cur,rfl,_⟩
 ·refine nil ?_
  have:=congrArg List.length h0
  rw [wAB he] at this
  simp only [List.length_nil,Nat.mul_eq_zero] at this
  rcases this with h | h
  ·exact List.eq_nil_of_length_eq_zero h
  ·omega
 ·cases hp:p with
  | nil=>rw [<- hp];exact nil hp
  | cons x0 p0 =>
   rw [<- hp]
   haveI:Inhabited {x:α // x ∈ p}:=⟨⟨x0,by rw [hp];simp⟩⟩
   obtain ⟨h1,h2⟩:=hS.holds (k:=0) rfl
   obtain ⟨gid,fst,cap,e,hcf,hg⟩:=hF
   obtain ⟨g,cb,rfl⟩:=hv
   simp only [Value.func.injEq,Fn.func.injEq] at e
   obtain ⟨rfl,e2,rfl⟩:=e
   have e2:fst=[]:=by simpa using e2.symm
   subst e2
   have hat:∀ l2:List {x:α // x ∈ p},l2.flatMap (fun x=>enc x.1)=(l2.map Subtype.val).flatMap enc:=fun l2=>by rw [List.flatMap_map]
   have hH:Go.Sort.HoldsK (fun x:{x:α // x ∈ p}=>enc x.1) sz w b 0 p.attach.toArray:=by
    unfold Go.Sort.HoldsK
    rw [wMg (f:=fun x:{x:α // x ∈ p}=>enc x.1) (fun x=>he x.1)]
    show Go.Sort.Holds id w b 0 (p.attach.flatMap fun x=>enc x.1).toArray
    rw [hat,nE]
    exact h1
   have hl:=hc.1
   have:=H (fun x:{x:α // x ∈ p}=>enc x.1) (fun x=>he x.1) (fun x=>ho x.1) (wOz h p) (wPA hc) g cap.toArray b 0 c p.attach.toArray w hcf (fun m os dk _ x y=>?_) hH h2 (by simpa using hl) (wOB hc)
   ·simp only [List.size_toArray,List.length_attach] at this
    refine Calls.mono' this ?_
    rintro e w' ⟨rfl,n,os,rfl⟩
    refine ⟨_,rfl,U,_,?_,rfl,rfl,by simp⟩
    unfold Go.Proofs.sortWorldK Go.Sort.putRowK
    rw [wMg (f:=fun x:{x:α // x ∈ p}=>enc x.1) (fun x=>he x.1)]
    rw [List.toList_toArray,hat,wOC hc]
    exact hS.sorted (k:=0) (n:=n) (os:=os) rfl (by rw [wAB he,wAB he];simp)
   ·have K:Keep w (Go.Proofs.sortWorldK (fun x:{x:α // x ∈ p}=>enc x.1) sz w b 0 m dk os) (·=b):=by
     unfold Go.Proofs.sortWorldK Go.Sort.putRowK
     exact wKy w m b _ os
    have hs:=hc.2.1 x.1 x.2 y.1 y.2
    obtain ⟨n,hn⟩:=Option.isSome_iff_exists.1 hs
    have hcn:wOz h p x y=n:=by unfold wOz;rw [hn];rfl
    rw [hcn]
    exact wOD hg hA hR hS (k:=0) rfl K hn
end
end Go.KL
