import Derived.Test.YtghaibkggdecnaaGreatR0
import Derived.Shelf.SlSortCmp.NoneTotal
import Derived.Shelf.Sort.Plain
import Derived.Shelf.Slices.In.SortNone
import Derived.Ground.Names2Prog
import Derived.Ground.SlsfProg
import Derived.Ground.SlgnProg
import Derived.Test.YtghaibkggdecnaaGreatProg
set_option linter.all false
open List renaming flatMap->nA,mem_of_getElem?->nB,attach_map_subtype_val->nD,getElem?_eq_getElem->nE,getElem?_take->nJ
open Array renaming getElem?_modify->nG,getElem?_toList->nH,getElem?_mapIdx->nI,ext_getElem?->nK
open Option renaming map_some->nL
namespace Go.KL
open Go.RowKit
theorem wII (w:World) (n b:Nat) (F:Array Value) (os:Array Obj):Keep w (Go.Sort.grow (Go.Sort.putRow id (Go.Sort.ahead w n) b 0 F) os) (·=b):=by
 refine ⟨rfl,⟨rfl,Nat.le_add_right _ _⟩,rfl,?_,fun k hk hx=>?_⟩
 ·rw [Go.Sort.size_grow,Go.Sort.size_putRow]
  exact Nat.le_add_right _ _
 ·rw [Go.Sort.heap_grow_old _ _ (by rw [Go.Sort.size_putRow];exact hk)]
  show ((Go.Sort.ahead w n).heap.modify b _)[k]?=_
  rw [nG,if_neg fun e=>hx e.symm]
  rfl
section
variable {B:Base} {U:PHeap} {L:List Res} {w:World}
theorem St.sorted (h:St B U L w) {k b c T sz n:Nat} {cs cs':List Value} {os:Array Obj} (hk:L[k]?=some (.row (some ⟨b,0,none⟩) c T sz cs)) (hl:cs'.length=cs.length) :
  St B U (L.set k (.row (some ⟨b,0,none⟩) c T sz cs')) (Go.Sort.grow (Go.Sort.putRow id (Go.Sort.ahead w n) b 0 cs'.toArray) os):=by
 rcases h.at_ _ (nB hk) with ⟨h0,_⟩ | ⟨b',cur,e,h1,h2,h3,h4,h5⟩
 ·cases h0
 ·cases e
  refine h.set hk ((wII w n b _ os).weak fun i _ e=>by subst e;rfl) (.inr ⟨b,Go.Sort.putCells id 0 cs'.toArray cur,rfl,?_,by rw [hl];exact h2,h3,?_,?_⟩) fun x hx=>.inl hx
  ·rw [Go.Sort.heap_grow_old _ _ (by rw [Go.Sort.size_putRow];exact wAK h1)]
   show ((Go.Sort.ahead w n).heap.modify b _)[b]?=_
   rw [nG,if_pos rfl,Go.Sort.heap_ahead,h1]
   rfl
  ·simp [Go.Sort.putCells,h4]
  ·apply List.ext_getElem?
   intro j
   rw [nJ]
   by_cases hj:j < cs'.length
   ·rw [if_pos hj,nH]
    simp only [Go.Sort.putCells,nI]
    have hc:j < cur.size:=by omega
    rw [Array.getElem?_eq_getElem hc,nL,if_pos ⟨Nat.zero_le _,by simpa using hj⟩,nE hj]
    simp [hj]
   ·rw [if_neg hj,List.getElem?_eq_none (by omega)]
theorem St.holds (h:St B U L w) {k b c T sz:Nat} {cs:List Value} (hk:L[k]?=some (.row (some ⟨b,0,none⟩) c T sz cs)):Go.Sort.Holds id w b 0 cs.toArray/\b < w.heap.size:=by
 rcases h.at_ _ (nB hk) with ⟨h0,_⟩ | ⟨b',cur,e,h1,h2,h3,h4,h5⟩
 ·cases h0
 ·cases e
  refine ⟨fun j hj=>?_,wAK h1⟩
  have hj:j < cs.length:=by simpa using hj
  constructor
  ·have this:(cur.toList.take cs.length)[j]?=cs[j]?:=congrArg (·[j]?) h5
   rw [nJ,if_pos hj,nH,nE hj] at this
   simp [World.cell?,h1,this,hj]
  ·simp [World.frozen?,h1]
end
theorem wIx {α:Type} {f:α->Value} (l:List α):l.flatMap (fun x=>[f x])=l.map f:=by
 induction l with
 | nil=>rfl
 | cons a l ih=>simp [ih]
section
variable {α:Type} [Inhabited α]
theorem wGt (f:α->Value) (w:World) (b off:Nat) (d:Array α):Go.Sort.putRow f w b off d=Go.Sort.putRow id w b off (d.map f):=by
 unfold Go.Sort.putRow
 refine Go.Sort.mapBlock_congr w b _ _ fun c _ _ _=>?_
 unfold Go.Sort.putCells
 apply nK
 intro k
 simp only [nI,Array.size_map]
 cases c[k]? with
 | none=>rfl
 | some x =>
  simp only [nL]
  by_cases hr:off <= k/\k < off + d.size
  ·rw [if_pos hr,if_pos hr,getElem!_pos d _ (by omega),getElem!_pos (d.map f) _ (by simp;omega)]
   simp
  ·rw [if_neg hr,if_neg hr]
theorem wLc (f:α->Value) (w:World) (b off:Nat) (d:Array α) (h:Go.Sort.Holds id w b off (d.map f)):Go.Sort.Holds f w b off d:=fun j hj=>by
 have:=h j (by simpa using hj)
 rw [getElem!_pos (d.map f) _ (by simpa using hj)] at this
 rw [getElem!_pos d _ hj]
 simpa using this
end
theorem wLd {w w':World} (k:Keep w w' Non):∃ q os',w'=Go.Sort.grow (w.drewN q) os':=by
 refine ⟨w'.drawn - w.drawn,w'.heap.extract w.heap.size w'.heap.size,?_⟩
 obtain ⟨h1,⟨h2,h3⟩,h4,h5,h6⟩:=k
 obtain ⟨heap,tape,drawn,os,output⟩:=w
 obtain ⟨heap',tape',drawn',os',output'⟩:=w'
 simp only at h1 h2 h3 h4 h5 h6
 subst h1 h2 h4
 simp only [Go.Sort.grow,World.drewN,World.mk.injEq,and_true]
 refine ⟨?_,trivial,show drawn'=drawn + (drawn' - drawn) by omega⟩
 apply nK
 intro i
 rw [Array.getElem?_append]
 split
 ·rename_i hi
  exact h6 i hi id
 ·rename_i hi
  rw [Array.getElem?_extract]
  rcases Nat.lt_or_ge i heap'.size with hl | hl
  ·rw [if_pos (by omega)]
   congr 1
   omega
  ·rw [if_neg (by omega),Array.getElem?_eq_none hl]
section
variable {α:Type} {h:α × α->Option Int} {l:List α}
def wNZ (h:α × α->Option Int) (l:List α) (x y:{x:α // x ∈ l}):Int:=(h (x.1,y.1)).getD 0
theorem wDW (c:Cmp h l) (x y:{x:α // x ∈ l}):Go.Proofs.ltOf (wNZ h l) x y=ltB h x.1 y.1:=by
 have:=c.2.1 x.1 x.2 y.1 y.2
 unfold Go.Proofs.ltOf wNZ ltB
 cases e:h (x.1,y.1) with
 | none=>rw [e] at this;cases this
 | some n=>rfl
theorem wNk (c:Cmp h l):Go.Sort.SWO (Go.Proofs.ltOf (wNZ h l)) where
 irrefl x:=by rw [wDW c];exact c.2.2.1 x.1 x.2
 trans x y z:=by rw [wDW c,wDW c,wDW c];exact c.2.2.2.1 x.1 x.2 y.1 y.2 z.1 z.2
 ntrans x y z:=by rw [wDW c,wDW c,wDW c];exact c.2.2.2.2.1 x.1 x.2 y.1 y.2 z.1 z.2
theorem wLe (c:Cmp h l) (x y:{x:α // x ∈ l}) (h1:Go.Proofs.ltOf (wNZ h l) x y=false) (h2:Go.Proofs.ltOf (wNZ h l) y x=false):x=y:=by
 rw [wDW c] at h1 h2
 exact Subtype.ext (c.2.2.2.2.2 x.1 x.2 y.1 y.2 h1 h2)
theorem wLf (c:Cmp h l):(l.attach.mergeSort fun x y=>!Go.Proofs.ltOf (wNZ h l) y x).map Subtype.val=l.mergeSort fun x y=>!ltB h y x:=by
 rw [List.map_mergeSort (s:=fun x y=>!ltB h y x) (fun a _ b _=>by rw [wDW c])]
 rw [nD]
theorem wKo {β:Type} (c:Cmp h l) (g:α->β):(l.attach.mergeSort fun x y=>!Go.Proofs.ltOf (wNZ h l) y x).map (fun x=>g x.1)=(l.mergeSort fun x y=>!ltB h y x).map g:=by
 rw [<- wLf c,List.map_map]
 rfl
theorem wIy {β:Type} (g:α->β):l.attach.map (fun x=>g x.1)=l.map g:=by
 have:=congrArg (List.map g) (nD l)
 rw [List.map_map] at this
 exact this
end
theorem St.other {B:Base} {U:PHeap} {L:List Res} {w w':World} (h:St B U L w) {k b c T sz:Nat} {cs:List Value} (hk:L[k]?=some (.row (some ⟨b,0,none⟩) c T sz cs)) (K:Keep w w' (·=b)):St ⟨w',[],U⟩ U [] w' where
 os:=rfl
 tape:=TapeLe.refl w'
 output:=rfl
 size:=Nat.le_refl _
 old:=fun _ _ _=>rfl
 fro:=fun x o hx=>(K.block x (wAK (h.fro x o hx)) fun e=>by
  have:=(h.own _ (nB hk) b rfl).1
  subst e
  rw [hx] at this
  cases this).trans (h.fro x o hx)
 le:=fun _ _ h=>h
 src:=fun _ _ h=>.inl h
 at_:=fun _ h=>by cases h
 own:=fun _ h=>by cases h
 dj:=fun i j r s b h=>by simp at h
section
variable {P:Program} {f T:Nat} {A:Option Addr} {c:Nat} {w:World} {U:PHeap} {v:Value}
theorem wLg {α:Type} {h:α × α->Option Int} {AR:PHeap->α × α->List Value->Prop} {RR:PHeap->List Res->Value->Int->Prop} {B:Base} {L:List Res} {w w':World} {g b k:Nat} {cap cs:List Value} {val:α->Value} {sz:Nat}
  (hg:∀ U1 w1 x y vs,PHeap.Le U U1->St ⟨w1,[],U1⟩ U1 [] w1->AR U1 x vs->h x=some y->Gv P g ([] ++ vs ++ cap) w1 (wCd w1 [] U1 fun U_ L_ v=>RR U_ L_ v y))
  (hA:∀ U1 x y,AR U1 (x,y) [val x,val y]) (hR:∀ U1 L v n,RR U1 L v n->v=.int .i64 n) (hS:St B U L w) (hk:L[k]?=some (.row (some ⟨b,0,none⟩) c T sz cs)) (K:Keep w w' (·=b)) {x y:α} {n:Int} (hn:h (x,y)=some n) :
  Calls P g (#[val x,val y] ++ cap.toArray) w' fun e w2=>e=.returned (.int .i64 n)/\∃ q os',w2=Go.Sort.grow (w'.drewN q) os':=by
 have:=hg U w' (x,y) n _ (PHeap.Le.refl U) (hS.other hk K) (hA U x y) hn
 have e:([] ++ [val x,val y] ++ cap).toArray=#[val x,val y] ++ cap.toArray:=by simp
 unfold Gv at this
 rw [e] at this
 refine Calls.mono' this ?_
 rintro e w2 ⟨v,rfl,U',L',h1,h2⟩
 rw [hR _ _ _ _ h2]
 exact ⟨rfl,wLd h1.kp0⟩
theorem wLh {α:Type} {enc1:α->Value} {enc:α->List Value} {p r:List α} {h:α × α->Option Int} {AR:PHeap->α × α->List Value->Prop} {RR:PHeap->List Res->Value->Int->Prop} (he:∀ x,enc x=[enc1 x]) (ho:∀ x,(enc1 x).oneCell'=true)
  (hA:∀ U1 x y,AR U1 (x,y) [enc1 x,enc1 y]) (hR:∀ U1 L v n,RR U1 L v n->v=.int .i64 n)
  (H:∀ {α:Type} [Inhabited α] (enc:α->Value) (_:Go.Proofs.OneCell enc) (cf:α->α->Int) (_:Go.Sort.SWO (Go.Proofs.ltOf cf)) (g:Nat) (cb:Array Value) (blk off cap:Nat) (d:Array α) (w:World),(∀ args w,(callFunc g args).run P w=.ok (.enter g args) w) ->
   Go.Proofs.CmpLays1 P g cb enc cf blk off d.size w->Go.Sort.Holds enc w blk off d->blk < w.heap.size->d.size < 4611686018427387904->(∀ x y,(Go.Proofs.ltOf cf) x y=false->(Go.Proofs.ltOf cf) y x=false->x=y) ->
   Calls P f #[.slice (some ⟨blk,off,none⟩) d.size cap,.func (.func g) #[] cb] w fun e w'=>e=.returned (.tuple #[])/\∃ n os,w'=Go.Proofs.sortWorld enc w blk off n (d.toList.mergeSort fun x y=>!(Go.Proofs.ltOf cf) y x).toArray os)
  (HN:∀ (p:Option Addr) (cap:Nat) (fv:Value) (w:World),Calls P f #[.slice p 0 cap,fv] w fun e w'=>e=.returned (.tuple #[])/\w'=w)
  (hS:St ⟨w,[.row A c T 1 (nA enc p)],U⟩ U [.row A c T 1 (nA enc p)] w) (hF:FnOK P U v AR RR h) (hv:∃ g cb,v=.func (.func g) #[] cb) (hm:wLb h p=some r) :
  Gv P f [.slice A p.length c,v] w (wCd w [.row A c T 1 (nA enc p)] U fun U_ L_ v=>v=.tuple #[]/\L_=[.row A c T 1 (nA enc r)]/\r.length=p.length):=by
 obtain ⟨hc,rfl⟩:=wKl hm
 have hfl:∀ l:List α,l.flatMap enc=l.map enc1:=fun l=>by rw [show enc=fun x=>[enc1 x] from funext he];exact wIx l
 have nil:p=[]->Gv P f [.slice A p.length c,v] w (wCd w [.row A c T 1 (nA enc p)] U fun U_ L_ v=>v=.tuple #[]/\L_=[.row A c T 1 (nA enc (p.mergeSort fun x y=>!ltB h y x))]/\(p.mergeSort fun x y=>!ltB h y x).length=p.length):=by
  rintro rfl
  refine Calls.mono' (HN A c v w) ?_
  rintro e w' ⟨rfl,rfl⟩
  exact ⟨_,rfl,U,_,hS,rfl,by simp,by simp⟩
 rcases hS.at_ _ (List.mem_cons_self ..) with ⟨rfl,rfl,h0⟩ | ⟨b,cur,rfl,_⟩
 ·refine nil ?_
  rw [hfl] at h0
  simpa using h0
 ·cases hp:p with
  | nil=>rw [<- hp];exact nil hp
  | cons x0 p0 =>
   rw [<- hp]
   haveI:Inhabited {x:α // x ∈ p}:=⟨⟨x0,by rw [hp];simp⟩⟩
   obtain ⟨h1,h2⟩:=hS.holds (k:=0) rfl
   rw [hfl] at h1
   obtain ⟨gid,fst,cap,e,hcf,hg⟩:=hF
   obtain ⟨g,cb,rfl⟩:=hv
   simp only [Value.func.injEq,Fn.func.injEq] at e
   obtain ⟨rfl,e2,rfl⟩:=e
   have e2:fst=[]:=by simpa using e2.symm
   subst e2
   have hH:Go.Sort.Holds (fun x:{x:α // x ∈ p}=>enc1 x.1) w b 0 p.attach.toArray:=wLc _ _ _ _ _ (by
    have:=wIy (l:=p) enc1
    rw [List.map_toArray,this]
    exact h1)
   have hl:=hc.1
   have:=H (fun x:{x:α // x ∈ p}=>enc1 x.1) (fun (x:{x:α // x ∈ p})=>ho x.1) (wNZ h p) (wNk hc) g cap.toArray b 0 c p.attach.toArray w hcf (fun m os dk _ x y=>?_) hH h2 (by simpa using hl) (wLe hc)
   ·simp only [List.size_toArray,List.length_attach] at this
    refine Calls.mono' this ?_
    rintro e w' ⟨rfl,n,os,rfl⟩
    refine ⟨_,rfl,U,_,?_,rfl,rfl,by simp⟩
    unfold Go.Proofs.sortWorld
    rw [wGt,List.map_toArray,wKo hc enc1,hfl (p.mergeSort fun x y=>!ltB h y x)]
    have:=hS.sorted (k:=0) (n:=n) (os:=os) (cs':=(p.mergeSort fun x y=>!ltB h y x).map enc1) rfl (by rw [hfl];simp)
    simpa using this
   ·have K:Keep w (Go.Proofs.sortWorld (fun x:{x:α // x ∈ p}=>enc1 x.1) w b 0 m dk os) (·=b):=by
     unfold Go.Proofs.sortWorld
     rw [wGt]
     exact wII w m b _ os
    have hs:=hc.2.1 x.1 x.2 y.1 y.2
    obtain ⟨n,hn⟩:=Option.isSome_iff_exists.1 hs
    have hcn:wNZ h p x y=n:=by unfold wNZ;rw [hn];rfl
    rw [hcn]
    exact wLg hg hA hR hS (k:=0) rfl K hn
end
end Go.KL
namespace Go.Proofs
open Go.Shelf
def Tryz.laysSlF06_f106_ren:Go.Shelf.Ren:=⟨fun | 6=>106 | 15=>146 | 14=>145 | 28=>165 | 29=>166 | 20=>152 | 21=>158 | 22=>159 | 23=>160 | 24=>161 | 25=>162 | 26=>163 | 27=>164 | 46=>179 | 47=>180 | 48=>181 | 49=>182 | 50=>183 | 57=>197 | n=>n,fun | 22=>31 | 24=>3 | 25=>50 | 3=>3 | 39=>192 | 0=>0 | 53=>134 | 55=>208 | 4=>4 | 46=>201 | 45=>200 | 50=>146 | 5=>5 | 9=>9 | 66=>215 | 70=>219 | 76=>229 | 77=>230 | n=>n,fun | n=>n⟩
theorem Tryz.laysSlF06_f106:Go.Proofs.SlLaysF0.n6 Tryz.prog Tryz.laysSlF06_f106_ren:={
 mixed:=by kernel_rfl
 f6:=⟨Tryz.f106.name,by decide,Tryz.func106.trans (congrArg some (by kernel_rfl))⟩
 f14:=⟨Tryz.f145.name,by decide,Tryz.func145.trans (congrArg some (by kernel_rfl))⟩
 f15:=Tryz.func146.trans (congrArg some (by kernel_rfl))
 f20:=⟨Tryz.f152.name,by decide,Tryz.func152.trans (congrArg some (by kernel_rfl))⟩
 f21:=⟨Tryz.f158.name,by decide,Tryz.func158.trans (congrArg some (by kernel_rfl))⟩
 f22:=⟨Tryz.f159.name,by decide,Tryz.func159.trans (congrArg some (by kernel_rfl))⟩
 f23:=⟨Tryz.f160.name,by decide,Tryz.func160.trans (congrArg some (by kernel_rfl))⟩
 f24:=⟨Tryz.f161.name,by decide,Tryz.func161.trans (congrArg some (by kernel_rfl))⟩
 f25:=⟨Tryz.f162.name,by decide,Tryz.func162.trans (congrArg some (by kernel_rfl))⟩
 f26:=⟨Tryz.f163.name,by decide,Tryz.func163.trans (congrArg some (by kernel_rfl))⟩
 f27:=⟨Tryz.f164.name,by decide,Tryz.func164.trans (congrArg some (by kernel_rfl))⟩
 f28:=Tryz.func165.trans (congrArg some (by kernel_rfl))
 f29:=Tryz.func166.trans (congrArg some (by kernel_rfl))
 f46:=⟨Tryz.f179.name,by decide,Tryz.func179.trans (congrArg some (by kernel_rfl))⟩
 f47:=Tryz.func180.trans (congrArg some (by kernel_rfl))
 f48:=Tryz.func181.trans (congrArg some (by kernel_rfl))
 f49:=⟨Tryz.f182.name,by decide,Tryz.func182.trans (congrArg some (by kernel_rfl))⟩
 f50:=⟨Tryz.f183.name,by decide,Tryz.func183.trans (congrArg some (by kernel_rfl))⟩
 f57:=⟨Tryz.f197.name,by decide,Tryz.func197.trans (congrArg some (by kernel_rfl))⟩
 t0:=Tryz.underlying0
 a0:=Tryz.isAgg0
 z0:=Tryz.sizeOf0
 v0:=Tryz.zeroValue0
 t3:=Tryz.underlying3
 a3:=Tryz.isAgg3
 z3:=Tryz.sizeOf3
 v3:=Tryz.zeroValue3
 t4:=Tryz.underlying4
 a4:=Tryz.isAgg4
 z4:=Tryz.sizeOf4
 v4:=Tryz.zeroValue4
 t5:=Tryz.underlying5
 a5:=Tryz.isAgg5
 z5:=Tryz.sizeOf5
 v5:=Tryz.zeroValue5
 t9:=Tryz.underlying9
 a9:=Tryz.isAgg9
 z9:=Tryz.sizeOf9
 v9:=Tryz.zeroValue9
 t22:=Tryz.underlying31
 a22:=Tryz.isAgg31
 z22:=Tryz.sizeOf31
 v22:=Tryz.zeroValue31
 t25:=Tryz.underlying50
 a25:=Tryz.isAgg50
 z25:=Tryz.sizeOf50
 v25:=Tryz.zeroValue50
 t39:=Tryz.underlying192
 a39:=Tryz.isAgg192
 z39:=Tryz.sizeOf192
 v39:=Tryz.zeroValue192
 t45:=Tryz.underlying200
 a45:=Tryz.isAgg200
 z45:=Tryz.sizeOf200
 v45:=Tryz.zeroValue200
 t46:=Tryz.underlying201
 a46:=Tryz.isAgg201
 z46:=Tryz.sizeOf201
 v46:=Tryz.zeroValue201
 t50:=Tryz.underlying146
 a50:=Tryz.isAgg146
 z50:=Tryz.sizeOf146
 v50:=Tryz.zeroValue146
 t53:=Tryz.underlying134
 a53:=Tryz.isAgg134
 z53:=Tryz.sizeOf134
 v53:=Tryz.zeroValue134
 t55:=Tryz.underlying208
 a55:=Tryz.isAgg208
 z55:=Tryz.sizeOf208
 v55:=Tryz.zeroValue208
 t66:=Tryz.underlying215
 a66:=Tryz.isAgg215
 z66:=Tryz.sizeOf215
 v66:=Tryz.zeroValue215
 t70:=Tryz.underlying219
 a70:=Tryz.isAgg219
 z70:=Tryz.sizeOf219
 v70:=Tryz.zeroValue219
 t76:=Tryz.underlying229
 a76:=Tryz.isAgg229
 z76:=Tryz.sizeOf229
 v76:=Tryz.zeroValue229
 t77:=Tryz.underlying230
 a77:=Tryz.isAgg230
 z77:=Tryz.sizeOf230
 v77:=Tryz.zeroValue230 }
open Go.RowKit Go.Lib Go.Sort in
theorem Tryz.slices_SortFunc_none_f106 {α:Type} [Inhabited α] (p:Option Addr) (cap:Nat) (fv:Value) (w:World) :
  Calls Tryz.prog 106 #[.slice p 0 cap,fv] w fun e w'=>e=.returned (.tuple #[])/\w'=w:=AnyF.slices_SortFunc_none Tryz.laysSlF06_f106 p cap fv w
def Tryz.laysSlF6_f106_ren:Go.Shelf.Ren:=⟨fun | 6=>106 | 15=>146 | 14=>145 | 28=>165 | 29=>166 | 20=>152 | 21=>158 | 22=>159 | 23=>160 | 24=>161 | 25=>162 | 26=>163 | 27=>164 | 46=>179 | 47=>180 | 48=>181 | 49=>182 | 50=>183 | 57=>197 | n=>n,fun | 22=>31 | 24=>3 | 25=>50 | 3=>3 | 39=>192 | 0=>0 | 53=>134 | 55=>208 | 4=>4 | 46=>201 | 45=>200 | 50=>146 | 5=>5 | 9=>9 | 66=>215 | 70=>219 | 76=>229 | 77=>230 | n=>n,fun | n=>n⟩
theorem Tryz.laysSlF6_f106:Go.Proofs.SlLaysF.n6 Tryz.prog Tryz.laysSlF6_f106_ren:={
 mixed:=by kernel_rfl
 f6:=⟨Tryz.f106.name,by decide,Tryz.func106.trans (congrArg some (by kernel_rfl))⟩
 f14:=⟨Tryz.f145.name,by decide,Tryz.func145.trans (congrArg some (by kernel_rfl))⟩
 f15:=Tryz.func146.trans (congrArg some (by kernel_rfl))
 f20:=⟨Tryz.f152.name,by decide,Tryz.func152.trans (congrArg some (by kernel_rfl))⟩
 f21:=⟨Tryz.f158.name,by decide,Tryz.func158.trans (congrArg some (by kernel_rfl))⟩
 f22:=⟨Tryz.f159.name,by decide,Tryz.func159.trans (congrArg some (by kernel_rfl))⟩
 f23:=⟨Tryz.f160.name,by decide,Tryz.func160.trans (congrArg some (by kernel_rfl))⟩
 f24:=⟨Tryz.f161.name,by decide,Tryz.func161.trans (congrArg some (by kernel_rfl))⟩
 f25:=⟨Tryz.f162.name,by decide,Tryz.func162.trans (congrArg some (by kernel_rfl))⟩
 f26:=⟨Tryz.f163.name,by decide,Tryz.func163.trans (congrArg some (by kernel_rfl))⟩
 f27:=⟨Tryz.f164.name,by decide,Tryz.func164.trans (congrArg some (by kernel_rfl))⟩
 f28:=Tryz.func165.trans (congrArg some (by kernel_rfl))
 f29:=Tryz.func166.trans (congrArg some (by kernel_rfl))
 f46:=⟨Tryz.f179.name,by decide,Tryz.func179.trans (congrArg some (by kernel_rfl))⟩
 f47:=Tryz.func180.trans (congrArg some (by kernel_rfl))
 f48:=Tryz.func181.trans (congrArg some (by kernel_rfl))
 f49:=⟨Tryz.f182.name,by decide,Tryz.func182.trans (congrArg some (by kernel_rfl))⟩
 f50:=⟨Tryz.f183.name,by decide,Tryz.func183.trans (congrArg some (by kernel_rfl))⟩
 f57:=⟨Tryz.f197.name,by decide,Tryz.func197.trans (congrArg some (by kernel_rfl))⟩
 t0:=Tryz.underlying0
 a0:=Tryz.isAgg0
 z0:=Tryz.sizeOf0
 v0:=Tryz.zeroValue0
 t3:=Tryz.underlying3
 a3:=Tryz.isAgg3
 z3:=Tryz.sizeOf3
 v3:=Tryz.zeroValue3
 t4:=Tryz.underlying4
 a4:=Tryz.isAgg4
 z4:=Tryz.sizeOf4
 v4:=Tryz.zeroValue4
 t5:=Tryz.underlying5
 a5:=Tryz.isAgg5
 z5:=Tryz.sizeOf5
 v5:=Tryz.zeroValue5
 t9:=Tryz.underlying9
 a9:=Tryz.isAgg9
 z9:=Tryz.sizeOf9
 v9:=Tryz.zeroValue9
 t22:=Tryz.underlying31
 a22:=Tryz.isAgg31
 z22:=Tryz.sizeOf31
 v22:=Tryz.zeroValue31
 a24:=Tryz.isAgg3
 z24:=Tryz.sizeOf3
 t25:=Tryz.underlying50
 a25:=Tryz.isAgg50
 z25:=Tryz.sizeOf50
 v25:=Tryz.zeroValue50
 t39:=Tryz.underlying192
 a39:=Tryz.isAgg192
 z39:=Tryz.sizeOf192
 v39:=Tryz.zeroValue192
 t45:=Tryz.underlying200
 a45:=Tryz.isAgg200
 z45:=Tryz.sizeOf200
 v45:=Tryz.zeroValue200
 t46:=Tryz.underlying201
 a46:=Tryz.isAgg201
 z46:=Tryz.sizeOf201
 v46:=Tryz.zeroValue201
 t50:=Tryz.underlying146
 a50:=Tryz.isAgg146
 z50:=Tryz.sizeOf146
 v50:=Tryz.zeroValue146
 t53:=Tryz.underlying134
 a53:=Tryz.isAgg134
 z53:=Tryz.sizeOf134
 v53:=Tryz.zeroValue134
 t55:=Tryz.underlying208
 a55:=Tryz.isAgg208
 z55:=Tryz.sizeOf208
 v55:=Tryz.zeroValue208
 t66:=Tryz.underlying215
 a66:=Tryz.isAgg215
 z66:=Tryz.sizeOf215
 v66:=Tryz.zeroValue215
 t70:=Tryz.underlying219
 a70:=Tryz.isAgg219
 z70:=Tryz.sizeOf219
 v70:=Tryz.zeroValue219
 t76:=Tryz.underlying229
 a76:=Tryz.isAgg229
 z76:=Tryz.sizeOf229
 v76:=Tryz.zeroValue229
 t77:=Tryz.underlying230
 a77:=Tryz.isAgg230
 z77:=Tryz.sizeOf230
 v77:=Tryz.zeroValue230 }
open Go.RowKit Go.Lib Go.Sort in
theorem Tryz.slices_SortFunc_total {α:Type} [Inhabited α] (enc:α->Value) (h1:OneCell enc) (cf:α->α->Int) (hO:SWO (ltOf cf)) (g:Nat) (cb:Array Value) (blk off cap:Nat) (d:Array α) (w:World) (eg:∀ args w,(callFunc g args).run Tryz.prog w=.ok (.enter g args) w) (hcmp:CmpLays1 Tryz.prog g cb enc cf blk off d.size w) (hH:Holds enc w blk off d) (hblk:blk < w.heap.size) (hsz:d.size < 4611686018427387904) (hT:∀ x y,(ltOf cf) x y=false->(ltOf cf) y x=false->x=y) :
  Calls Tryz.prog 106 #[.slice (some ⟨blk,off,none⟩) d.size cap,.func (.func g) #[] cb] w fun e w' =>
   e=.returned (.tuple #[])/\∃ n os,w'=sortWorld enc w blk off n (d.toList.mergeSort fun x y=>!(ltOf cf) y x).toArray os:=Any.slices_SortFunc_total Tryz.laysSlF6_f106 enc h1 cf hO g cb blk off cap d w eg hcmp hH hblk hsz hT
end Go.Proofs
