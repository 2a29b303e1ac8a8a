import Derived.Test.YtglpalgiipahjaaGreatS0
import Derived.Test.YtglpalgiipahjaaGreatS1
import Derived.Shelf.SlSortCmp.NoneTotal
import Derived.Shelf.Sort.Plain
import Derived.Shelf.Slices.In.SortNone
set_option linter.all false
open List renaming flatMap->nA,attach_map_subtype_val->nB,getElem?_eq_getElem->nD,mem_of_getElem?->nE,mem_cons_self->nH,getElem?_eq_none->nO,getElem?_toArray->nP,getElem?_take->nQ,length_attach->nS,size_toArray->nT
open Array renaming ext_getElem?->nG,getElem?_eq_getElem->nI,getElem?_eq_none->nK,getElem?_modify->nL,getElem?_toList->nM,getElem?_mapIdx->nN
open Option renaming isSome_iff_exists->nJ,map_some->nV
open Go.Value renaming int->nR
open Go.Value.func renaming injEq->nU
namespace Go.KL
open Go.RowKit
theorem wGi (w:World) (n b:Nat) (F:Array Value) (os:Array Obj):Keep w (Go.Sort.grow (Go.Sort.putRow id (Go.Sort.ahead w n) b 0 F) os) (·=b):=by
 refine ⟨rfl,⟨rfl,Nat.le_add_right _ _⟩,rfl,?_,fun k hk hx=>?_⟩
 ·rw [Go.Sort.size_grow,Go.Sort.size_putRow]
  exact Nat.le_add_right _ _
 ·rw [Go.Sort.heap_grow_old _ _ (by rw [Go.Sort.size_putRow];exact hk)]
  show ((Go.Sort.ahead w n).heap.modify b _)[k]?=_
  rw [nL,if_neg fun e=>hx e.symm]
  rfl
section
variable {B:Base} {U:PHeap} {L:List Res} {w:World}
theorem St.sorted (h:St B U L w) {k b c T sz n:Nat} {cs cs':List Value} {os:Array Obj} (hk:L[k]?=some (.row (some ⟨b,0,none⟩) c T sz cs)) (hl:cs'.length=cs.length) :
  St B U (L.set k (.row (some ⟨b,0,none⟩) c T sz cs')) (Go.Sort.grow (Go.Sort.putRow id (Go.Sort.ahead w n) b 0 cs'.toArray) os):=by
 rcases h.at_ _ (nE hk) with ⟨h0,_⟩ | ⟨b',cur,e,h1,h2,h3,h4,h5⟩
 ·cases h0
 ·cases e
  refine h.set hk ((wGi w n b _ os).weak fun i _ e=>by subst e;rfl) (.inr ⟨b,Go.Sort.putCells id 0 cs'.toArray cur,rfl,?_,by rw [hl];exact h2,h3,?_,?_⟩) fun x hx=>.inl hx
  ·rw [Go.Sort.heap_grow_old _ _ (by rw [Go.Sort.size_putRow];exact wAT h1)]
   show ((Go.Sort.ahead w n).heap.modify b _)[b]?=_
   rw [nL,if_pos rfl,Go.Sort.heap_ahead,h1]
   rfl
  ·simp [Go.Sort.putCells,h4]
  ·apply List.ext_getElem?
   intro j
   rw [nQ]
   by_cases hj:j < cs'.length
   ·rw [if_pos hj,nM]
    simp only [Go.Sort.putCells,nN]
    have hc:j < cur.size:=by omega
    rw [nI hc,nV,if_pos ⟨Nat.zero_le _,by simpa using hj⟩,nD hj]
    simp [hj]
   ·rw [if_neg hj,nO (by omega)]
theorem St.holds (h:St B U L w) {k b c T sz:Nat} {cs:List Value} (hk:L[k]?=some (.row (some ⟨b,0,none⟩) c T sz cs)):Go.Sort.Holds id w b 0 cs.toArray/\b < w.heap.size:=by
 rcases h.at_ _ (nE hk) with ⟨h0,_⟩ | ⟨b',cur,e,h1,h2,h3,h4,h5⟩
 ·cases h0
 ·cases e
  refine ⟨fun j hj=>?_,wAT h1⟩
  have hj:j < cs.length:=by simpa using hj
  constructor
  ·have this:(cur.toList.take cs.length)[j]?=cs[j]?:=congrArg (·[j]?) h5
   rw [nQ,if_pos hj,nM,nD hj] at this
   simp [World.cell?,h1,this,hj]
  ·simp [World.frozen?,h1]
end
theorem wEx {α:Type} {f:α->Value} (l:List α):l.flatMap (fun x=>[f x])=l.map f:=by
 induction l with
 | nil=>rfl
 | cons a l ih=>simp [ih]
section
variable {α:Type} [Inhabited α]
theorem wEc (f:α->Value) (w:World) (b off:Nat) (d:Array α):Go.Sort.putRow f w b off d=Go.Sort.putRow id w b off (d.map f):=by
 unfold Go.Sort.putRow
 refine Go.Sort.mapBlock_congr w b _ _ fun c _ _ _=>?_
 unfold Go.Sort.putCells
 apply nG
 intro k
 simp only [nN,Array.size_map]
 cases c[k]? with
 | none=>rfl
 | some x =>
  simp only [nV]
  by_cases hr:off <= k/\k < off + d.size
  ·rw [if_pos hr,if_pos hr,getElem!_pos d _ (by omega),getElem!_pos (d.map f) _ (by simp;omega)]
   simp
  ·rw [if_neg hr,if_neg hr]
theorem wGj (f:α->Value) (w:World) (b off:Nat) (d:Array α) (h:Go.Sort.Holds id w b off (d.map f)):Go.Sort.Holds f w b off d:=fun j hj=>by
 have:=h j (by simpa using hj)
 rw [getElem!_pos (d.map f) _ (by simpa using hj)] at this
 rw [getElem!_pos d _ hj]
 simpa using this
theorem wKo {f:α->List Value} {k:Nat} (hf:∀ x,(f x).length=k) (d:Array α):Go.Sort.flatK f k d=(d.toList.flatMap f).toArray:=by
 apply nG
 intro i
 have hl:(d.toList.flatMap f).length=d.size * k:=by rw [wAB hf];simp
 rcases Nat.lt_or_ge i (d.size * k) with hi | hi
 ·have hk:0 < k:=by
   rcases Nat.eq_zero_or_pos k with h | h
   ·subst h;omega
   ·exact h
  have hd:i / k < d.size:=(Nat.div_lt_iff_lt_mul hk).2 hi
  have hm:i % k < k:=Nat.mod_lt _ hk
  rw [nI (by simpa using hi),nP]
  have h1:=wCQ hf d.toList (i / k) (i % k) (d[i / k]'hd) ((f (d[i / k]'hd))[i % k]'(by rw [hf];exact hm)) (by simp [hd]) (nD _)
  rw [Nat.mul_comm,Nat.div_add_mod] at h1
  rw [h1]
  have h2:=Go.Sort.get_flatK f k d i hi
  rw [getElem!_pos _ _ (by simpa using hi)] at h2
  rw [h2,getElem!_pos d _ hd,getElem!_pos _ _ (by rw [hf];exact hm)]
 ·rw [nK (by simpa using hi),nP,nO (by rw [hl];exact hi)]
end
theorem wNA {w w':World} (k:Keep w w' Non):∃ q os',w'=Go.Sort.grow (w.drewN q) os':=by
 refine ⟨w'.drawn - w.drawn,w'.heap.extract w.heap.size w'.heap.size,?_⟩
 obtain ⟨h1,⟨h2,h3⟩,h4,h5,h6⟩:=k
 obtain ⟨heap,tape,drawn,os,output⟩:=w
 obtain ⟨heap',tape',drawn',os',output'⟩:=w'
 simp only at h1 h2 h3 h4 h5 h6
 subst h1 h2 h4
 simp only [Go.Sort.grow,World.drewN,World.mk.injEq,and_true]
 refine ⟨?_,trivial,show drawn'=drawn + (drawn' - drawn) by omega⟩
 apply nG
 intro i
 rw [Array.getElem?_append]
 split
 ·rename_i hi
  exact h6 i hi id
 ·rename_i hi
  rw [Array.getElem?_extract]
  rcases Nat.lt_or_ge i heap'.size with hl | hl
  ·rw [if_pos (by omega)]
   congr 1
   omega
  ·rw [if_neg (by omega),nK hl]
theorem wPF {P:Program} {f T:Nat} {A:Option Addr} {c:Nat} {p r:List Int} {w:World} {U:PHeap}
  (H:∀ (blk off cap:Nat) (zs:List Int) (w:World),Go.Sort.Holds (nR .i64) w blk off zs.toArray->blk < w.heap.size->zs.length < 4611686018427387904->Calls P f #[.slice (some ⟨blk,off,none⟩) zs.length cap] w fun e w'=>e=.returned (.tuple #[])/\∃ n os,w'=Go.Sort.grow (Go.Sort.putRow (nR .i64) (Go.Sort.ahead w n) blk off (zs.mergeSort fun x y=>decide (x <= y)).toArray) os)
  (HN:∀ (p:Option Addr) (cap:Nat) (w:World),Calls P f #[.slice p 0 cap] w fun e w'=>e=.returned (.tuple #[])/\w'=w)
  (hS:St ⟨w,[.row A c T 1 (nA encI p)],U⟩ U [.row A c T 1 (nA encI p)] w) (hm:wPE p=some r) :
  Gv P f [.slice A p.length c] w (wCO w [.row A c T 1 (nA encI p)] U fun U_ L_ v=>v=.tuple #[]/\L_=[.row A c T 1 (nA encI r)]/\r.length=p.length):=by
 unfold wPE at hm
 split at hm
 ·rename_i hlen
  cases hm
  have hfl:∀ l:List Int,l.flatMap encI=l.map (nR .i64):=fun l=>wEx l
  have hr:=hS.at_ _ (nH ..)
  have nil:p=[]->Gv P f [.slice A p.length c] w (wCO w [.row A c T 1 (nA encI p)] U fun U_ L_ v=>v=.tuple #[]/\L_=[.row A c T 1 (nA encI (p.mergeSort fun x y=>decide (x <= y)))]/\(p.mergeSort fun x y=>decide (x <= y)).length=p.length):=by
   rintro rfl
   refine Calls.mono' (HN A c w) ?_
   rintro e w' ⟨rfl,rfl⟩
   exact ⟨_,rfl,U,_,hS,rfl,by simp,by simp⟩
  rcases hr with ⟨rfl,rfl,h0⟩ | ⟨b,cur,rfl,_⟩
  ·refine nil ?_
   rw [hfl] at h0
   simpa using h0
  ·obtain ⟨h1,h2⟩:=hS.holds (k:=0) rfl
   rw [hfl] at h1
   refine Calls.mono' (H b 0 c p w (wGj _ _ _ _ _ (by simpa using h1)) h2 hlen) ?_
   rintro e w' ⟨rfl,n,os,rfl⟩
   refine ⟨_,rfl,U,_,?_,rfl,rfl,by simp⟩
   rw [wEc]
   have:=hS.sorted (k:=0) (n:=n) (os:=os) (cs':=(p.mergeSort fun x y=>decide (x <= y)).map (nR .i64)) rfl (by rw [hfl];simp)
   rw [hfl (p.mergeSort fun x y=>decide (x <= y))]
   simpa using this
 ·cases hm
section
variable {α:Type} {h:α × α->Option Int} {l:List α}
def wLf (h:α × α->Option Int) (l:List α) (x y:{x:α // x ∈ l}):Int:=(h (x.1,y.1)).getD 0
theorem wDq (c:Cmp h l) (x y:{x:α // x ∈ l}):Go.Proofs.ltOf (wLf h l) x y=ltB h x.1 y.1:=by
 have:=c.2.1 x.1 x.2 y.1 y.2
 unfold Go.Proofs.ltOf wLf ltB
 cases e:h (x.1,y.1) with
 | none=>rw [e] at this;cases this
 | some n=>rfl
theorem wKp (c:Cmp h l):Go.Sort.SWO (Go.Proofs.ltOf (wLf h l)) where
 irrefl x:=by rw [wDq c];exact c.2.2.1 x.1 x.2
 trans x y z:=by rw [wDq c,wDq c,wDq c];exact c.2.2.2.1 x.1 x.2 y.1 y.2 z.1 z.2
 ntrans x y z:=by rw [wDq c,wDq c,wDq c];exact c.2.2.2.2.1 x.1 x.2 y.1 y.2 z.1 z.2
theorem wIv (c:Cmp h l) (x y:{x:α // x ∈ l}) (h1:Go.Proofs.ltOf (wLf h l) x y=false) (h2:Go.Proofs.ltOf (wLf h l) y x=false):x=y:=by
 rw [wDq c] at h1 h2
 exact Subtype.ext (c.2.2.2.2.2 x.1 x.2 y.1 y.2 h1 h2)
theorem wIw (c:Cmp h l):(l.attach.mergeSort fun x y=>!Go.Proofs.ltOf (wLf h l) y x).map Subtype.val=l.mergeSort fun x y=>!ltB h y x:=by
 rw [List.map_mergeSort (s:=fun x y=>!ltB h y x) (fun a _ b _=>by rw [wDq c])]
 rw [nB]
theorem wLg {β:Type} (c:Cmp h l) (g:α->β):(l.attach.mergeSort fun x y=>!Go.Proofs.ltOf (wLf h l) y x).map (fun x=>g x.1)=(l.mergeSort fun x y=>!ltB h y x).map g:=by
 rw [<- wIw c,List.map_map]
 rfl
theorem wJz {β:Type} (g:α->β):l.attach.map (fun x=>g x.1)=l.map g:=by
 have:=congrArg (List.map g) (nB l)
 rw [List.map_map] at this
 exact this
end
theorem St.other {B:Base} {U:PHeap} {L:List Res} {w w':World} (h:St B U L w) {k b c T sz:Nat} {cs:List Value} (hk:L[k]?=some (.row (some ⟨b,0,none⟩) c T sz cs)) (K:Keep w w' (·=b)):St ⟨w',[],U⟩ U [] w' where
 os:=rfl
 tape:=TapeLe.refl w'
 output:=rfl
 size:=Nat.le_refl _
 old:=fun _ _ _=>rfl
 fro:=fun x o hx=>(K.block x (wAT (h.fro x o hx)) fun e=>by
  have:=(h.own _ (nE hk) b rfl).1
  subst e
  rw [hx] at this
  cases this).trans (h.fro x o hx)
 le:=fun _ _ h=>h
 src:=fun _ _ h=>.inl h
 at_:=fun _ h=>by cases h
 own:=fun _ h=>by cases h
 dj:=fun i j r s b h=>by simp at h
section
variable {P:Program} {f T:Nat} {A:Option Addr} {c:Nat} {w:World} {U:PHeap} {v:Value}
theorem wIx {α:Type} {h:α × α->Option Int} {AR:PHeap->α × α->List Value->Prop} {RR:PHeap->List Res->Value->Int->Prop} {B:Base} {L:List Res} {w w':World} {g b k:Nat} {cap cs:List Value} {val:α->Value} {sz:Nat}
  (hg:∀ U1 w1 x y vs,PHeap.Le U U1->St ⟨w1,[],U1⟩ U1 [] w1->AR U1 x vs->h x=some y->Gv P g ([] ++ vs ++ cap) w1 (wCO w1 [] U1 fun U_ L_ v=>RR U_ L_ v y))
  (hA:∀ U1 x y,AR U1 (x,y) [val x,val y]) (hR:∀ U1 L v n,RR U1 L v n->v=.int .i64 n) (hS:St B U L w) (hk:L[k]?=some (.row (some ⟨b,0,none⟩) c T sz cs)) (K:Keep w w' (·=b)) {x y:α} {n:Int} (hn:h (x,y)=some n) :
  Calls P g (#[val x,val y] ++ cap.toArray) w' fun e w2=>e=.returned (.int .i64 n)/\∃ q os',w2=Go.Sort.grow (w'.drewN q) os':=by
 have:=hg U w' (x,y) n _ (PHeap.Le.refl U) (hS.other hk K) (hA U x y) hn
 have e:([] ++ [val x,val y] ++ cap).toArray=#[val x,val y] ++ cap.toArray:=by simp
 unfold Gv at this
 rw [e] at this
 refine Calls.mono' this ?_
 rintro e w2 ⟨v,rfl,U',L',h1,h2⟩
 rw [hR _ _ _ _ h2]
 exact ⟨rfl,wNA h1.kp0⟩
theorem wNB {α:Type} {enc1:α->Value} {enc:α->List Value} {p r:List α} {h:α × α->Option Int} {AR:PHeap->α × α->List Value->Prop} {RR:PHeap->List Res->Value->Int->Prop} (he:∀ x,enc x=[enc1 x]) (ho:∀ x,(enc1 x).oneCell'=true)
  (hA:∀ U1 x y,AR U1 (x,y) [enc1 x,enc1 y]) (hR:∀ U1 L v n,RR U1 L v n->v=.int .i64 n)
  (H:∀ {α:Type} [Inhabited α] (enc:α->Value) (_:Go.Proofs.OneCell enc) (cf:α->α->Int) (_:Go.Sort.SWO (Go.Proofs.ltOf cf)) (g:Nat) (cb:Array Value) (blk off cap:Nat) (d:Array α) (w:World),(∀ args w,(callFunc g args).run P w=.ok (.enter g args) w) ->
   Go.Proofs.CmpLays1 P g cb enc cf blk off d.size w->Go.Sort.Holds enc w blk off d->blk < w.heap.size->d.size < 4611686018427387904->(∀ x y,(Go.Proofs.ltOf cf) x y=false->(Go.Proofs.ltOf cf) y x=false->x=y) ->
   Calls P f #[.slice (some ⟨blk,off,none⟩) d.size cap,.func (.func g) #[] cb] w fun e w'=>e=.returned (.tuple #[])/\∃ n os,w'=Go.Proofs.sortWorld enc w blk off n (d.toList.mergeSort fun x y=>!(Go.Proofs.ltOf cf) y x).toArray os)
  (HN:∀ (p:Option Addr) (cap:Nat) (fv:Value) (w:World),Calls P f #[.slice p 0 cap,fv] w fun e w'=>e=.returned (.tuple #[])/\w'=w)
  (hS:St ⟨w,[.row A c T 1 (nA enc p)],U⟩ U [.row A c T 1 (nA enc p)] w) (hF:FnOK P U v AR RR h) (hv:∃ g cb,v=.func (.func g) #[] cb) (hm:wJy h p=some r) :
  Gv P f [.slice A p.length c,v] w (wCO w [.row A c T 1 (nA enc p)] U fun U_ L_ v=>v=.tuple #[]/\L_=[.row A c T 1 (nA enc r)]/\r.length=p.length):=by
 obtain ⟨hc,rfl⟩:=wHc hm
 have hfl:∀ l:List α,l.flatMap enc=l.map enc1:=fun l=>by rw [show enc=fun x=>[enc1 x] from funext he];exact wEx l
 have nil:p=[]->Gv P f [.slice A p.length c,v] w (wCO w [.row A c T 1 (nA enc p)] U fun U_ L_ v=>v=.tuple #[]/\L_=[.row A c T 1 (nA enc (p.mergeSort fun x y=>!ltB h y x))]/\(p.mergeSort fun x y=>!ltB h y x).length=p.length):=by
  rintro rfl
  refine Calls.mono' (HN A c v w) ?_
  rintro e w' ⟨rfl,rfl⟩
  exact ⟨_,rfl,U,_,hS,rfl,by simp,by simp⟩
 rcases hS.at_ _ (nH ..) with ⟨rfl,rfl,h0⟩ | ⟨b,cur,rfl,_⟩
 ·refine nil ?_
  rw [hfl] at h0
  simpa using h0
 ·cases hp:p with
  | nil=>rw [<- hp];exact nil hp
  | cons x0 p0 =>
   rw [<- hp]
   haveI:Inhabited {x:α // x ∈ p}:=⟨⟨x0,by rw [hp];simp⟩⟩
   obtain ⟨h1,h2⟩:=hS.holds (k:=0) rfl
   rw [hfl] at h1
   obtain ⟨gid,fst,cap,e,hcf,hg⟩:=hF
   obtain ⟨g,cb,rfl⟩:=hv
   simp only [nU,Fn.func.injEq] at e
   obtain ⟨rfl,e2,rfl⟩:=e
   have e2:fst=[]:=by simpa using e2.symm
   subst e2
   have hH:Go.Sort.Holds (fun x:{x:α // x ∈ p}=>enc1 x.1) w b 0 p.attach.toArray:=wGj _ _ _ _ _ (by
    have:=wJz (l:=p) enc1
    rw [List.map_toArray,this]
    exact h1)
   have hl:=hc.1
   have:=H (fun x:{x:α // x ∈ p}=>enc1 x.1) (fun (x:{x:α // x ∈ p})=>ho x.1) (wLf h p) (wKp hc) g cap.toArray b 0 c p.attach.toArray w hcf (fun m os dk _ x y=>?_) hH h2 (by simpa using hl) (wIv hc)
   ·simp only [nT,nS] at this
    refine Calls.mono' this ?_
    rintro e w' ⟨rfl,n,os,rfl⟩
    refine ⟨_,rfl,U,_,?_,rfl,rfl,by simp⟩
    unfold Go.Proofs.sortWorld
    rw [wEc,List.map_toArray,wLg hc enc1,hfl (p.mergeSort fun x y=>!ltB h y x)]
    have:=hS.sorted (k:=0) (n:=n) (os:=os) (cs':=(p.mergeSort fun x y=>!ltB h y x).map enc1) rfl (by rw [hfl];simp)
    simpa using this
   ·have K:Keep w (Go.Proofs.sortWorld (fun x:{x:α // x ∈ p}=>enc1 x.1) w b 0 m dk os) (·=b):=by
     unfold Go.Proofs.sortWorld
     rw [wEc]
     exact wGi w m b _ os
    have hs:=hc.2.1 x.1 x.2 y.1 y.2
    obtain ⟨n,hn⟩:=nJ.1 hs
    have hcn:wLf h p x y=n:=by unfold wLf;rw [hn];rfl
    rw [hcn]
    exact wIx hg hA hR hS (k:=0) rfl K hn
theorem wNC {α:Type} {sz:Nat} {enc:α->List Value} {p r:List α} {h:α × α->Option Int} {AR:PHeap->α × α->List Value->Prop} {RR:PHeap->List Res->Value->Int->Prop} (he:∀ x,(enc x).length=sz) (ho:∀ x,∀ v ∈ enc x,v.oneCell'=true)
  (hA:∀ U1 x y,AR U1 (x,y) [.agg (enc x).toArray,.agg (enc y).toArray]) (hR:∀ U1 L v n,RR U1 L v n->v=.int .i64 n)
  (H:∀ {α:Type} [Inhabited α] (enc:α->List Value) (_:∀ x,(enc x).length=sz) (_:∀ x,∀ v ∈ enc x,v.oneCell'=true) (cf:α->α->Int) (_:Go.Sort.SWO (Go.Proofs.ltOf cf)) (g:Nat) (cb:Array Value) (blk off cap:Nat) (d:Array α) (w:World),(∀ args w,(callFunc g args).run P w=.ok (.enter g args) w) ->
   Go.Proofs.CmpLays P g cb enc sz cf blk off d.size w->Go.Sort.HoldsK enc sz w blk off d->blk < w.heap.size->d.size < 4611686018427387904->(∀ x y,(Go.Proofs.ltOf cf) x y=false->(Go.Proofs.ltOf cf) y x=false->x=y) ->
   Calls P f #[.slice (some ⟨blk,off,none⟩) d.size cap,.func (.func g) #[] cb] w fun e w'=>e=.returned (.tuple #[])/\∃ n os,w'=Go.Proofs.sortWorldK enc sz w blk off n (d.toList.mergeSort fun x y=>!(Go.Proofs.ltOf cf) y x).toArray os)
  (HN:∀ (p:Option Addr) (cap:Nat) (fv:Value) (w:World),Calls P f #[.slice p 0 cap,fv] w fun e w'=>e=.returned (.tuple #[])/\w'=w)
  (hS:St ⟨w,[.row A c T sz (nA enc p)],U⟩ U [.row A c T sz (nA enc p)] w) (hF:FnOK P U v AR RR h) (hz:0 < sz) (hv:∃ g cb,v=.func (.func g) #[] cb) (hm:wJy h p=some r) :
  Gv P f [.slice A p.length c,v] w (wCO w [.row A c T sz (nA enc p)] U fun U_ L_ v=>v=.tuple #[]/\L_=[.row A c T sz (nA enc r)]/\r.length=p.length):=by
 obtain ⟨hc,rfl⟩:=wHc hm
 have nil:p=[]->Gv P f [.slice A p.length c,v] w (wCO w [.row A c T sz (nA enc p)] U fun U_ L_ v=>v=.tuple #[]/\L_=[.row A c T sz (nA enc (p.mergeSort fun x y=>!ltB h y x))]/\(p.mergeSort fun x y=>!ltB h y x).length=p.length):=by
  rintro rfl
  refine Calls.mono' (HN A c v w) ?_
  rintro e w' ⟨rfl,rfl⟩
  exact ⟨_,rfl,U,_,hS,rfl,by simp,by simp⟩
 rcases hS.at_ _ (nH ..) with ⟨rfl,rfl,h0⟩ | ⟨b,cur,rfl,_⟩
 ·refine nil ?_
  have:=congrArg List.length h0
  rw [wAB he] at this
  simp only [List.length_nil,Nat.mul_eq_zero] at this
  rcases this with h | h
  ·exact List.eq_nil_of_length_eq_zero h
  ·omega
 ·cases hp:p with
  | nil=>rw [<- hp];exact nil hp
  | cons x0 p0 =>
   rw [<- hp]
   haveI:Inhabited {x:α // x ∈ p}:=⟨⟨x0,by rw [hp];simp⟩⟩
   obtain ⟨h1,h2⟩:=hS.holds (k:=0) rfl
   obtain ⟨gid,fst,cap,e,hcf,hg⟩:=hF
   obtain ⟨g,cb,rfl⟩:=hv
   simp only [nU,Fn.func.injEq] at e
   obtain ⟨rfl,e2,rfl⟩:=e
   have e2:fst=[]:=by simpa using e2.symm
   subst e2
   have hat:∀ l2:List {x:α // x ∈ p},l2.flatMap (fun x=>enc x.1)=(l2.map Subtype.val).flatMap enc:=fun l2=>by rw [List.flatMap_map]
   have hH:Go.Sort.HoldsK (fun x:{x:α // x ∈ p}=>enc x.1) sz w b 0 p.attach.toArray:=by
    unfold Go.Sort.HoldsK
    rw [wKo (f:=fun x:{x:α // x ∈ p}=>enc x.1) (fun x=>he x.1)]
    show Go.Sort.Holds id w b 0 (p.attach.flatMap fun x=>enc x.1).toArray
    rw [hat,nB]
    exact h1
   have hl:=hc.1
   have:=H (fun x:{x:α // x ∈ p}=>enc x.1) (fun x=>he x.1) (fun x=>ho x.1) (wLf h p) (wKp hc) g cap.toArray b 0 c p.attach.toArray w hcf (fun m os dk _ x y=>?_) hH h2 (by simpa using hl) (wIv hc)
   ·simp only [nT,nS] at this
    refine Calls.mono' this ?_
    rintro e w' ⟨rfl,n,os,rfl⟩
    refine ⟨_,rfl,U,_,?_,rfl,rfl,by simp⟩
    unfold Go.Proofs.sortWorldK Go.Sort.putRowK
    rw [wKo (f:=fun x:{x:α // x ∈ p}=>enc x.1) (fun x=>he x.1)]
    rw [List.toList_toArray,hat,wIw hc]
    exact hS.sorted (k:=0) (n:=n) (os:=os) rfl (by rw [wAB he,wAB he];simp)
   ·have K:Keep w (Go.Proofs.sortWorldK (fun x:{x:α // x ∈ p}=>enc x.1) sz w b 0 m dk os) (·=b):=by
     unfold Go.Proofs.sortWorldK Go.Sort.putRowK
     exact wGi w m b _ os
    have hs:=hc.2.1 x.1 x.2 y.1 y.2
    obtain ⟨n,hn⟩:=nJ.1 hs
    have hcn:wLf h p x y=n:=by unfold wLf;rw [hn];rfl
    rw [hcn]
    exact wIx hg hA hR hS (k:=0) rfl K hn
end
end Go.KL
