import Derived.Test.YtfcmijinklojbaaGreatS0
import Derived.Test.YtfcmijinklojbaaGreatS1
import Derived.Shelf.SlSortCmp.NoneTotal
import Derived.Shelf.Sort.Plain
import Derived.Shelf.Slices.In.SortNone
import Derived.Ground.SlsfProg
import Derived.Test.YtfcmijinklojbaaGreatProg
set_option linter.all false
open List renaming getElem?_eq_getElem->nA,flatMap->nB,mem_of_getElem?->nD,attach_map_subtype_val->nE,getElem?_eq_none->nK,getElem?_toArray->nL,getElem?_take->nM
open Array renaming getElem?_eq_getElem->nG,getElem?_eq_none->nH,getElem?_modify->nI,getElem?_toList->nJ,ext_getElem?->nO
namespace Go.KL
open Go.RowKit
theorem wHl (w:World) (n b:Nat) (F:Array Value) (os:Array Obj):Keep w (Go.Sort.grow (Go.Sort.putRow id (Go.Sort.ahead w n) b 0 F) os) (·=b):=by
 refine ⟨rfl,⟨rfl,Nat.le_add_right _ _⟩,rfl,?_,fun k hk hx=>?_⟩
 ·rw [Go.Sort.size_grow,Go.Sort.size_putRow]
  exact Nat.le_add_right _ _
 ·rw [Go.Sort.heap_grow_old _ _ (by rw [Go.Sort.size_putRow];exact hk)]
  show ((Go.Sort.ahead w n).heap.modify b _)[k]?=_
  rw [nI,if_neg fun e=>hx e.symm]
  rfl
section
variable {B:Base} {U:PHeap} {L:List Res} {w:World}
theorem St.sorted (h:St B U L w) {k b c T sz n:Nat} {cs cs':List Value} {os:Array Obj} (hk:L[k]?=some (.row (some ⟨b,0,none⟩) c T sz cs)) (hl:cs'.length=cs.length) :
  St B U (L.set k (.row (some ⟨b,0,none⟩) c T sz cs')) (Go.Sort.grow (Go.Sort.putRow id (Go.Sort.ahead w n) b 0 cs'.toArray) os):=by
 rcases h.at_ _ (nD hk) with ⟨h0,_⟩ | ⟨b',cur,e,h1,h2,h3,h4,h5⟩
 ·cases h0
 ·cases e
  refine h.set hk ((wHl w n b _ os).weak fun i _ e=>by subst e;rfl) (.inr ⟨b,Go.Sort.putCells id 0 cs'.toArray cur,rfl,?_,by rw [hl];exact h2,h3,?_,?_⟩) fun x hx=>.inl hx
  ·rw [Go.Sort.heap_grow_old _ _ (by rw [Go.Sort.size_putRow];exact wAO h1)]
   show ((Go.Sort.ahead w n).heap.modify b _)[b]?=_
   rw [nI,if_pos rfl,Go.Sort.heap_ahead,h1]
   rfl
  ·simp [Go.Sort.putCells,h4]
  ·apply List.ext_getElem?
   intro j
   rw [nM]
   by_cases hj:j < cs'.length
   ·rw [if_pos hj,nJ]
    simp only [Go.Sort.putCells,Array.getElem?_mapIdx]
    have hc:j < cur.size:=by omega
    rw [nG hc,Option.map_some,if_pos ⟨Nat.zero_le _,by simpa using hj⟩,nA hj]
    simp [hj]
   ·rw [if_neg hj,nK (by omega)]
theorem St.holds (h:St B U L w) {k b c T sz:Nat} {cs:List Value} (hk:L[k]?=some (.row (some ⟨b,0,none⟩) c T sz cs)):Go.Sort.Holds id w b 0 cs.toArray/\b < w.heap.size:=by
 rcases h.at_ _ (nD hk) with ⟨h0,_⟩ | ⟨b',cur,e,h1,h2,h3,h4,h5⟩
 ·cases h0
 ·cases e
  refine ⟨fun j hj=>?_,wAO h1⟩
  have hj:j < cs.length:=by simpa using hj
  constructor
  ·have this:(cur.toList.take cs.length)[j]?=cs[j]?:=congrArg (·[j]?) h5
   rw [nM,if_pos hj,nJ,nA hj] at this
   simp [World.cell?,h1,this,hj]
  ·simp [World.frozen?,h1]
end
section
variable {α:Type} [Inhabited α]
theorem wJC {f:α->List Value} {k:Nat} (hf:∀ x,(f x).length=k) (d:Array α):Go.Sort.flatK f k d=(d.toList.flatMap f).toArray:=by
 apply nO
 intro i
 have hl:(d.toList.flatMap f).length=d.size * k:=by rw [wAD hf];simp
 rcases Nat.lt_or_ge i (d.size * k) with hi | hi
 ·have hk:0 < k:=by
   rcases Nat.eq_zero_or_pos k with h | h
   ·subst h;omega
   ·exact h
  have hd:i / k < d.size:=(Nat.div_lt_iff_lt_mul hk).2 hi
  have hm:i % k < k:=Nat.mod_lt _ hk
  rw [nG (by simpa using hi),nL]
  have h1:=wCU hf d.toList (i / k) (i % k) (d[i / k]'hd) ((f (d[i / k]'hd))[i % k]'(by rw [hf];exact hm)) (by simp [hd]) (nA _)
  rw [Nat.mul_comm,Nat.div_add_mod] at h1
  rw [h1]
  have h2:=Go.Sort.get_flatK f k d i hi
  rw [getElem!_pos _ _ (by simpa using hi)] at h2
  rw [h2,getElem!_pos d _ hd,getElem!_pos _ _ (by rw [hf];exact hm)]
 ·rw [nH (by simpa using hi),nL,nK (by rw [hl];exact hi)]
end
theorem wKv {w w':World} (k:Keep w w' Non):∃ q os',w'=Go.Sort.grow (w.drewN q) os':=by
 refine ⟨w'.drawn - w.drawn,w'.heap.extract w.heap.size w'.heap.size,?_⟩
 obtain ⟨h1,⟨h2,h3⟩,h4,h5,h6⟩:=k
 obtain ⟨heap,tape,drawn,os,output⟩:=w
 obtain ⟨heap',tape',drawn',os',output'⟩:=w'
 simp only at h1 h2 h3 h4 h5 h6
 subst h1 h2 h4
 simp only [Go.Sort.grow,World.drewN,World.mk.injEq,and_true]
 refine ⟨?_,trivial,show drawn'=drawn + (drawn' - drawn) by omega⟩
 apply nO
 intro i
 rw [Array.getElem?_append]
 split
 ·rename_i hi
  exact h6 i hi id
 ·rename_i hi
  rw [Array.getElem?_extract]
  rcases Nat.lt_or_ge i heap'.size with hl | hl
  ·rw [if_pos (by omega)]
   congr 1
   omega
  ·rw [if_neg (by omega),nH hl]
section
variable {α:Type} {h:α × α->Option Int} {l:List α}
def wMh (h:α × α->Option Int) (l:List α) (x y:{x:α // x ∈ l}):Int:=(h (x.1,y.1)).getD 0
theorem wDU (c:Cmp h l) (x y:{x:α // x ∈ l}):Go.Proofs.ltOf (wMh h l) x y=ltB h x.1 y.1:=by
 have:=c.2.1 x.1 x.2 y.1 y.2
 unfold Go.Proofs.ltOf wMh ltB
 cases e:h (x.1,y.1) with
 | none=>rw [e] at this;cases this
 | some n=>rfl
theorem wMi (c:Cmp h l):Go.Sort.SWO (Go.Proofs.ltOf (wMh h l)) where
 irrefl x:=by rw [wDU c];exact c.2.2.1 x.1 x.2
 trans x y z:=by rw [wDU c,wDU c,wDU c];exact c.2.2.2.1 x.1 x.2 y.1 y.2 z.1 z.2
 ntrans x y z:=by rw [wDU c,wDU c,wDU c];exact c.2.2.2.2.1 x.1 x.2 y.1 y.2 z.1 z.2
theorem wKw (c:Cmp h l) (x y:{x:α // x ∈ l}) (h1:Go.Proofs.ltOf (wMh h l) x y=false) (h2:Go.Proofs.ltOf (wMh h l) y x=false):x=y:=by
 rw [wDU c] at h1 h2
 exact Subtype.ext (c.2.2.2.2.2 x.1 x.2 y.1 y.2 h1 h2)
theorem wKx (c:Cmp h l):(l.attach.mergeSort fun x y=>!Go.Proofs.ltOf (wMh h l) y x).map Subtype.val=l.mergeSort fun x y=>!ltB h y x:=by
 rw [List.map_mergeSort (s:=fun x y=>!ltB h y x) (fun a _ b _=>by rw [wDU c])]
 rw [nE]
end
theorem St.other {B:Base} {U:PHeap} {L:List Res} {w w':World} (h:St B U L w) {k b c T sz:Nat} {cs:List Value} (hk:L[k]?=some (.row (some ⟨b,0,none⟩) c T sz cs)) (K:Keep w w' (·=b)):St ⟨w',[],U⟩ U [] w' where
 os:=rfl
 tape:=TapeLe.refl w'
 output:=rfl
 size:=Nat.le_refl _
 old:=fun _ _ _=>rfl
 fro:=fun x o hx=>(K.block x (wAO (h.fro x o hx)) fun e=>by
  have:=(h.own _ (nD hk) b rfl).1
  subst e
  rw [hx] at this
  cases this).trans (h.fro x o hx)
 le:=fun _ _ h=>h
 src:=fun _ _ h=>.inl h
 at_:=fun _ h=>by cases h
 own:=fun _ h=>by cases h
 dj:=fun i j r s b h=>by simp at h
section
variable {P:Program} {f T:Nat} {A:Option Addr} {c:Nat} {w:World} {U:PHeap} {v:Value}
theorem wKy {α:Type} {h:α × α->Option Int} {AR:PHeap->α × α->List Value->Prop} {RR:PHeap->List Res->Value->Int->Prop} {B:Base} {L:List Res} {w w':World} {g b k:Nat} {cap cs:List Value} {val:α->Value} {sz:Nat}
  (hg:∀ U1 w1 x y vs,PHeap.Le U U1->St ⟨w1,[],U1⟩ U1 [] w1->AR U1 x vs->h x=some y->Gv P g ([] ++ vs ++ cap) w1 (wCe w1 [] U1 fun U_ L_ v=>RR U_ L_ v y))
  (hA:∀ U1 x y,AR U1 (x,y) [val x,val y]) (hR:∀ U1 L v n,RR U1 L v n->v=.int .i64 n) (hS:St B U L w) (hk:L[k]?=some (.row (some ⟨b,0,none⟩) c T sz cs)) (K:Keep w w' (·=b)) {x y:α} {n:Int} (hn:h (x,y)=some n) :
  Calls P g (#[val x,val y] ++ cap.toArray) w' fun e w2=>e=.returned (.int .i64 n)/\∃ q os',w2=Go.Sort.grow (w'.drewN q) os':=by
 have:=hg U w' (x,y) n _ (PHeap.Le.refl U) (hS.other hk K) (hA U x y) hn
 have e:([] ++ [val x,val y] ++ cap).toArray=#[val x,val y] ++ cap.toArray:=by simp
 unfold Gv at this
 rw [e] at this
 refine Calls.mono' this ?_
 rintro e w2 ⟨v,rfl,U',L',h1,h2⟩
 rw [hR _ _ _ _ h2]
 exact ⟨rfl,wKv h1.kp0⟩
theorem wKz {α:Type} {sz:Nat} {enc:α->List Value} {p r:List α} {h:α × α->Option Int} {AR:PHeap->α × α->List Value->Prop} {RR:PHeap->List Res->Value->Int->Prop} (he:∀ x,(enc x).length=sz) (ho:∀ x,∀ v ∈ enc x,v.oneCell'=true)
  (hA:∀ U1 x y,AR U1 (x,y) [.agg (enc x).toArray,.agg (enc y).toArray]) (hR:∀ U1 L v n,RR U1 L v n->v=.int .i64 n)
  (H:∀ {α:Type} [Inhabited α] (enc:α->List Value) (_:∀ x,(enc x).length=sz) (_:∀ x,∀ v ∈ enc x,v.oneCell'=true) (cf:α->α->Int) (_:Go.Sort.SWO (Go.Proofs.ltOf cf)) (g:Nat) (cb:Array Value) (blk off cap:Nat) (d:Array α) (w:World),(∀ args w,(callFunc g args).run P w=.ok (.enter g args) w) ->
   Go.Proofs.CmpLays P g cb enc sz cf blk off d.size w->Go.Sort.HoldsK enc sz w blk off d->blk < w.heap.size->d.size < 4611686018427387904->(∀ x y,(Go.Proofs.ltOf cf) x y=false->(Go.Proofs.ltOf cf) y x=false->x=y) ->
   Calls P f #[.slice (some ⟨blk,off,none⟩) d.size cap,.func (.func g) #[] cb] w fun e w'=>e=.returned (.tuple #[])/\∃ n os,w'=Go.Proofs.sortWorldK enc sz w blk off n (d.toList.mergeSort fun x y=>!(Go.Proofs.ltOf cf) y x).toArray os)
  (HN:∀ (p:Option Addr) (cap:Nat) (fv:Value) (w:World),Calls P f #[.slice p 0 cap,fv] w fun e w'=>e=.returned (.tuple #[])/\w'=w)
  (hS:St ⟨w,[.row A c T sz (nB enc p)],U⟩ U [.row A c T sz (nB enc p)] w) (hF:FnOK P U v AR RR h) (hz:0 < sz) (hv:∃ g cb,v=.func (.func g) #[] cb) (hm:wJi h p=some r) :
  Gv P f [.slice A p.length c,v] w (wCe w [.row A c T sz (nB enc p)] U fun U_ L_ v=>v=.tuple #[]/\L_=[.row A c T sz (nB enc r)]/\r.length=p.length):=by
 obtain ⟨hc,rfl⟩:=wJj hm
 have nil:p=[]->Gv P f [.slice A p.length c,v] w (wCe w [.row A c T sz (nB enc p)] U fun U_ L_ v=>v=.tuple #[]/\L_=[.row A c T sz (nB enc (p.mergeSort fun x y=>!ltB h y x))]/\(p.mergeSort fun x y=>!ltB h y x).length=p.length):=by
  rintro rfl
  refine Calls.mono' (HN A c v w) ?_
  rintro e w' ⟨rfl,rfl⟩
  exact ⟨_,rfl,U,_,hS,rfl,by simp,by simp⟩
 rcases hS.at_ _ (List.mem_cons_self ..) with ⟨rfl,rfl,h0⟩ | ⟨b,cur,rfl,_⟩
 ·refine nil ?_
  have:=congrArg List.length h0
  rw [wAD he] at this
  simp only [List.length_nil,Nat.mul_eq_zero] at this
  rcases this with h | h
  ·exact List.eq_nil_of_length_eq_zero h
  ·omega
 ·cases hp:p with
  | nil=>rw [<- hp];exact nil hp
  | cons x0 p0 =>
   rw [<- hp]
   haveI:Inhabited {x:α // x ∈ p}:=⟨⟨x0,by rw [hp];simp⟩⟩
   obtain ⟨h1,h2⟩:=hS.holds (k:=0) rfl
   obtain ⟨gid,fst,cap,e,hcf,hg⟩:=hF
   obtain ⟨g,cb,rfl⟩:=hv
   simp only [Value.func.injEq,Fn.func.injEq] at e
   obtain ⟨rfl,e2,rfl⟩:=e
   have e2:fst=[]:=by simpa using e2.symm
   subst e2
   have hat:∀ l2:List {x:α // x ∈ p},l2.flatMap (fun x=>enc x.1)=(l2.map Subtype.val).flatMap enc:=fun l2=>by rw [List.flatMap_map]
   have hH:Go.Sort.HoldsK (fun x:{x:α // x ∈ p}=>enc x.1) sz w b 0 p.attach.toArray:=by
    unfold Go.Sort.HoldsK
    rw [wJC (f:=fun x:{x:α // x ∈ p}=>enc x.1) (fun x=>he x.1)]
    show Go.Sort.Holds id w b 0 (p.attach.flatMap fun x=>enc x.1).toArray
    rw [hat,nE]
    exact h1
   have hl:=hc.1
   have:=H (fun x:{x:α // x ∈ p}=>enc x.1) (fun x=>he x.1) (fun x=>ho x.1) (wMh h p) (wMi hc) g cap.toArray b 0 c p.attach.toArray w hcf (fun m os dk _ x y=>?_) hH h2 (by simpa using hl) (wKw hc)
   ·simp only [List.size_toArray,List.length_attach] at this
    refine Calls.mono' this ?_
    rintro e w' ⟨rfl,n,os,rfl⟩
    refine ⟨_,rfl,U,_,?_,rfl,rfl,by simp⟩
    unfold Go.Proofs.sortWorldK Go.Sort.putRowK
    rw [wJC (f:=fun x:{x:α // x ∈ p}=>enc x.1) (fun x=>he x.1)]
    rw [List.toList_toArray,hat,wKx hc]
    exact hS.sorted (k:=0) (n:=n) (os:=os) rfl (by rw [wAD he,wAD he];simp)
   ·have K:Keep w (Go.Proofs.sortWorldK (fun x:{x:α // x ∈ p}=>enc x.1) sz w b 0 m dk os) (·=b):=by
     unfold Go.Proofs.sortWorldK Go.Sort.putRowK
     exact wHl w m b _ os
    have hs:=hc.2.1 x.1 x.2 y.1 y.2
    obtain ⟨n,hn⟩:=Option.isSome_iff_exists.1 hs
    have hcn:wMh h p x y=n:=by unfold wMh;rw [hn];rfl
    rw [hcn]
    exact wKy hg hA hR hS (k:=0) rfl K hn
end
end Go.KL
namespace Go.Proofs
open Go.Shelf
def Tryz.laysSlF06_f26_ren:Go.Shelf.Ren:=⟨fun | 6=>26 | 15=>73 | 14=>72 | 28=>111 | 29=>112 | 20=>103 | 21=>104 | 22=>105 | 23=>106 | 24=>107 | 25=>108 | 26=>109 | 27=>110 | 46=>124 | 47=>125 | 48=>126 | 49=>127 | 50=>128 | 57=>133 | n=>n,fun | 22=>23 | 24=>59 | 25=>62 | 3=>3 | 39=>128 | 0=>0 | 53=>122 | 55=>172 | 4=>4 | 46=>164 | 45=>163 | 50=>168 | 5=>5 | 9=>9 | 66=>178 | 70=>182 | 76=>187 | 77=>188 | n=>n,fun | n=>n⟩
theorem Tryz.laysSlF06_f26:Go.Proofs.SlLaysF0.n6 Tryz.prog Tryz.laysSlF06_f26_ren:={
 mixed:=by kernel_rfl
 f6:=⟨Tryz.f26.name,by decide,Tryz.func26.trans (congrArg some (by kernel_rfl))⟩
 f14:=⟨Tryz.f72.name,by decide,Tryz.func72.trans (congrArg some (by kernel_rfl))⟩
 f15:=Tryz.func73.trans (congrArg some (by kernel_rfl))
 f20:=⟨Tryz.f103.name,by decide,Tryz.func103.trans (congrArg some (by kernel_rfl))⟩
 f21:=⟨Tryz.f104.name,by decide,Tryz.func104.trans (congrArg some (by kernel_rfl))⟩
 f22:=⟨Tryz.f105.name,by decide,Tryz.func105.trans (congrArg some (by kernel_rfl))⟩
 f23:=⟨Tryz.f106.name,by decide,Tryz.func106.trans (congrArg some (by kernel_rfl))⟩
 f24:=⟨Tryz.f107.name,by decide,Tryz.func107.trans (congrArg some (by kernel_rfl))⟩
 f25:=⟨Tryz.f108.name,by decide,Tryz.func108.trans (congrArg some (by kernel_rfl))⟩
 f26:=⟨Tryz.f109.name,by decide,Tryz.func109.trans (congrArg some (by kernel_rfl))⟩
 f27:=⟨Tryz.f110.name,by decide,Tryz.func110.trans (congrArg some (by kernel_rfl))⟩
 f28:=Tryz.func111.trans (congrArg some (by kernel_rfl))
 f29:=Tryz.func112.trans (congrArg some (by kernel_rfl))
 f46:=⟨Tryz.f124.name,by decide,Tryz.func124.trans (congrArg some (by kernel_rfl))⟩
 f47:=Tryz.func125.trans (congrArg some (by kernel_rfl))
 f48:=Tryz.func126.trans (congrArg some (by kernel_rfl))
 f49:=⟨Tryz.f127.name,by decide,Tryz.func127.trans (congrArg some (by kernel_rfl))⟩
 f50:=⟨Tryz.f128.name,by decide,Tryz.func128.trans (congrArg some (by kernel_rfl))⟩
 f57:=⟨Tryz.f133.name,by decide,Tryz.func133.trans (congrArg some (by kernel_rfl))⟩
 t0:=Tryz.underlying0
 a0:=Tryz.isAgg0
 z0:=Tryz.sizeOf0
 v0:=Tryz.zeroValue0
 t3:=Tryz.underlying3
 a3:=Tryz.isAgg3
 z3:=Tryz.sizeOf3
 v3:=Tryz.zeroValue3
 t4:=Tryz.underlying4
 a4:=Tryz.isAgg4
 z4:=Tryz.sizeOf4
 v4:=Tryz.zeroValue4
 t5:=Tryz.underlying5
 a5:=Tryz.isAgg5
 z5:=Tryz.sizeOf5
 v5:=Tryz.zeroValue5
 t9:=Tryz.underlying9
 a9:=Tryz.isAgg9
 z9:=Tryz.sizeOf9
 v9:=Tryz.zeroValue9
 t22:=Tryz.underlying23
 a22:=Tryz.isAgg23
 z22:=Tryz.sizeOf23
 v22:=Tryz.zeroValue23
 t25:=Tryz.underlying62
 a25:=Tryz.isAgg62
 z25:=Tryz.sizeOf62
 v25:=Tryz.zeroValue62
 t39:=Tryz.underlying128
 a39:=Tryz.isAgg128
 z39:=Tryz.sizeOf128
 v39:=Tryz.zeroValue128
 t45:=Tryz.underlying163
 a45:=Tryz.isAgg163
 z45:=Tryz.sizeOf163
 v45:=Tryz.zeroValue163
 t46:=Tryz.underlying164
 a46:=Tryz.isAgg164
 z46:=Tryz.sizeOf164
 v46:=Tryz.zeroValue164
 t50:=Tryz.underlying168
 a50:=Tryz.isAgg168
 z50:=Tryz.sizeOf168
 v50:=Tryz.zeroValue168
 t53:=Tryz.underlying122
 a53:=Tryz.isAgg122
 z53:=Tryz.sizeOf122
 v53:=Tryz.zeroValue122
 t55:=Tryz.underlying172
 a55:=Tryz.isAgg172
 z55:=Tryz.sizeOf172
 v55:=Tryz.zeroValue172
 t66:=Tryz.underlying178
 a66:=Tryz.isAgg178
 z66:=Tryz.sizeOf178
 v66:=Tryz.zeroValue178
 t70:=Tryz.underlying182
 a70:=Tryz.isAgg182
 z70:=Tryz.sizeOf182
 v70:=Tryz.zeroValue182
 t76:=Tryz.underlying187
 a76:=Tryz.isAgg187
 z76:=Tryz.sizeOf187
 v76:=Tryz.zeroValue187
 t77:=Tryz.underlying188
 a77:=Tryz.isAgg188
 z77:=Tryz.sizeOf188
 v77:=Tryz.zeroValue188 }
open Go.RowKit Go.Lib Go.Sort in
theorem Tryz.slices_SortFunc_none {α:Type} [Inhabited α] (p:Option Addr) (cap:Nat) (fv:Value) (w:World) :
  Calls Tryz.prog 26 #[.slice p 0 cap,fv] w fun e w'=>e=.returned (.tuple #[])/\w'=w:=AnyF.slices_SortFunc_none Tryz.laysSlF06_f26 p cap fv w
open Go.RowKit Go.Lib Go.Sort in
theorem Tryz.slices_SortFunc_total {α:Type} [Inhabited α] (k:Nat) (aE:∀ w,(isAgg 59).run Tryz.prog w=.ok true w) (zE:∀ w,(Go.sizeOf 59).run Tryz.prog w=.ok k w) (enc:α->List Value) (hk:∀ x,(enc x).length=k) (h1:∀ x,∀ v ∈ enc x,v.oneCell'=true) (cf:α->α->Int) (hO:SWO (ltOf cf)) (g:Nat) (cb:Array Value) (blk off cap:Nat) (d:Array α) (w:World) (eg:∀ args w,(callFunc g args).run Tryz.prog w=.ok (.enter g args) w) (hcmp:CmpLays Tryz.prog g cb enc k cf blk off d.size w) (hH:HoldsK enc k w blk off d) (hblk:blk < w.heap.size) (hsz:d.size < 4611686018427387904) (hT:∀ x y,(ltOf cf) x y=false->(ltOf cf) y x=false->x=y) :
  Calls Tryz.prog 26 #[.slice (some ⟨blk,off,none⟩) d.size cap,.func (.func g) #[] cb] w fun e w' =>
   e=.returned (.tuple #[])/\∃ n os,w'=sortWorldK enc k w blk off n (d.toList.mergeSort fun x y=>!(ltOf cf) y x).toArray os:=AnyQ.slices_SortFunc_total Tryz.laysSlF06_f26 k aE zE enc hk h1 cf hO g cb blk off cap d w eg hcmp hH hblk hsz hT
end Go.Proofs
