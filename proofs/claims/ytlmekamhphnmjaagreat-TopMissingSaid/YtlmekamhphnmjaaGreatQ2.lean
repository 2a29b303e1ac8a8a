import Derived.Test.YtlmekamhphnmjaaGreatQ0
import Derived.Shelf.SlSortCmp.NoneTotal
import Derived.Shelf.Sort.Plain
import Derived.Shelf.Slices.In.SortNone
import Derived.Ground.Names2Prog
import Derived.Ground.SlsfProg
import Derived.Test.YtlmekamhphnmjaaGreatProg
set_option linter.all false
open List renaming getElem?_eq_getElem->hD,flatMap->hJ,mem_of_getElem?->hM,attach_map_subtype_val->nA,getElem?_eq_none->nH,getElem?_toArray->nI,getElem?_take->nJ
open Array renaming getElem?_eq_getElem->nB,getElem?_eq_none->nD,getElem?_modify->nE,getElem?_toList->nG,ext_getElem?->nK
namespace Go.KL
open Go.RowKit
theorem wHq (w:World) (n b:Nat) (F:Array Value) (os:Array Obj):Keep w (Go.Sort.grow (Go.Sort.putRow id (Go.Sort.ahead w n) b 0 F) os) (·=b):=by
 refine ⟨rfl,⟨rfl,Nat.le_add_right _ _⟩,rfl,?_,fun k hk hx=>?_⟩
 ·rw [Go.Sort.size_grow,Go.Sort.size_putRow]
  exact Nat.le_add_right _ _
 ·rw [Go.Sort.heap_grow_old _ _ (by rw [Go.Sort.size_putRow];exact hk)]
  show ((Go.Sort.ahead w n).heap.modify b _)[k]?=_
  rw [nE,if_neg fun e=>hx e.symm]
  rfl
section
variable {B:Base} {U:PHeap} {L:List Res} {w:World}
theorem St.sorted (h:St B U L w) {k b c T sz n:Nat} {cs cs':List Value} {os:Array Obj} (hk:L[k]?=some (.row (some ⟨b,0,none⟩) c T sz cs)) (hl:cs'.length=cs.length) :
  St B U (L.set k (.row (some ⟨b,0,none⟩) c T sz cs')) (Go.Sort.grow (Go.Sort.putRow id (Go.Sort.ahead w n) b 0 cs'.toArray) os):=by
 rcases h.at_ _ (hM hk) with ⟨h0,_⟩ | ⟨b',cur,e,h1,h2,h3,h4,h5⟩
 ·cases h0
 ·cases e
  refine h.set hk ((wHq w n b _ os).weak fun i _ e=>by subst e;rfl) (.inr ⟨b,Go.Sort.putCells id 0 cs'.toArray cur,rfl,?_,by rw [hl];exact h2,h3,?_,?_⟩) fun x hx=>.inl hx
  ·rw [Go.Sort.heap_grow_old _ _ (by rw [Go.Sort.size_putRow];exact wBm h1)]
   show ((Go.Sort.ahead w n).heap.modify b _)[b]?=_
   rw [nE,if_pos rfl,Go.Sort.heap_ahead,h1]
   rfl
  ·simp [Go.Sort.putCells,h4]
  ·apply List.ext_getElem?
   intro j
   rw [nJ]
   by_cases hj:j < cs'.length
   ·rw [if_pos hj,nG]
    simp only [Go.Sort.putCells,Array.getElem?_mapIdx]
    have hc:j < cur.size:=by omega
    rw [nB hc,Option.map_some,if_pos ⟨Nat.zero_le _,by simpa using hj⟩,hD hj]
    simp [hj]
   ·rw [if_neg hj,nH (by omega)]
theorem St.holds (h:St B U L w) {k b c T sz:Nat} {cs:List Value} (hk:L[k]?=some (.row (some ⟨b,0,none⟩) c T sz cs)):Go.Sort.Holds id w b 0 cs.toArray/\b < w.heap.size:=by
 rcases h.at_ _ (hM hk) with ⟨h0,_⟩ | ⟨b',cur,e,h1,h2,h3,h4,h5⟩
 ·cases h0
 ·cases e
  refine ⟨fun j hj=>?_,wBm h1⟩
  have hj:j < cs.length:=by simpa using hj
  constructor
  ·have this:(cur.toList.take cs.length)[j]?=cs[j]?:=congrArg (·[j]?) h5
   rw [nJ,if_pos hj,nG,hD hj] at this
   simp [World.cell?,h1,this,hj]
  ·simp [World.frozen?,h1]
end
section
variable {α:Type} [Inhabited α]
theorem wJH {f:α->List Value} {k:Nat} (hf:∀ x,(f x).length=k) (d:Array α):Go.Sort.flatK f k d=(d.toList.flatMap f).toArray:=by
 apply nK
 intro i
 have hl:(d.toList.flatMap f).length=d.size * k:=by rw [wAG hf];simp
 rcases Nat.lt_or_ge i (d.size * k) with hi | hi
 ·have hk:0 < k:=by
   rcases Nat.eq_zero_or_pos k with h | h
   ·subst h;omega
   ·exact h
  have hd:i / k < d.size:=(Nat.div_lt_iff_lt_mul hk).2 hi
  have hm:i % k < k:=Nat.mod_lt _ hk
  rw [nB (by simpa using hi),nI]
  have h1:=wEL hf d.toList (i / k) (i % k) (d[i / k]'hd) ((f (d[i / k]'hd))[i % k]'(by rw [hf];exact hm)) (by simp [hd]) (hD _)
  rw [Nat.mul_comm,Nat.div_add_mod] at h1
  rw [h1]
  have h2:=Go.Sort.get_flatK f k d i hi
  rw [getElem!_pos _ _ (by simpa using hi)] at h2
  rw [h2,getElem!_pos d _ hd,getElem!_pos _ _ (by rw [hf];exact hm)]
 ·rw [nD (by simpa using hi),nI,nH (by rw [hl];exact hi)]
end
theorem wJx {w w':World} (k:Keep w w' Non):∃ q os',w'=Go.Sort.grow (w.drewN q) os':=by
 refine ⟨w'.drawn - w.drawn,w'.heap.extract w.heap.size w'.heap.size,?_⟩
 obtain ⟨h1,⟨h2,h3⟩,h4,h5,h6⟩:=k
 obtain ⟨heap,tape,drawn,os,output⟩:=w
 obtain ⟨heap',tape',drawn',os',output'⟩:=w'
 simp only at h1 h2 h3 h4 h5 h6
 subst h1 h2 h4
 simp only [Go.Sort.grow,World.drewN,World.mk.injEq,and_true]
 refine ⟨?_,trivial,show drawn'=drawn + (drawn' - drawn) by omega⟩
 apply nK
 intro i
 rw [Array.getElem?_append]
 split
 ·rename_i hi
  exact h6 i hi id
 ·rename_i hi
  rw [Array.getElem?_extract]
  rcases Nat.lt_or_ge i heap'.size with hl | hl
  ·rw [if_pos (by omega)]
   congr 1
   omega
  ·rw [if_neg (by omega),nD hl]
section
variable {α:Type} {h:α × α->Option Int} {l:List α}
def wKo (h:α × α->Option Int) (l:List α) (x y:{x:α // x ∈ l}):Int:=(h (x.1,y.1)).getD 0
theorem wEP (c:Cmp h l) (x y:{x:α // x ∈ l}):Go.Proofs.ltOf (wKo h l) x y=ltB h x.1 y.1:=by
 have:=c.2.1 x.1 x.2 y.1 y.2
 unfold Go.Proofs.ltOf wKo ltB
 cases e:h (x.1,y.1) with
 | none=>rw [e] at this;cases this
 | some n=>rfl
theorem wKp (c:Cmp h l):Go.Sort.SWO (Go.Proofs.ltOf (wKo h l)) where
 irrefl x:=by rw [wEP c];exact c.2.2.1 x.1 x.2
 trans x y z:=by rw [wEP c,wEP c,wEP c];exact c.2.2.2.1 x.1 x.2 y.1 y.2 z.1 z.2
 ntrans x y z:=by rw [wEP c,wEP c,wEP c];exact c.2.2.2.2.1 x.1 x.2 y.1 y.2 z.1 z.2
theorem wJy (c:Cmp h l) (x y:{x:α // x ∈ l}) (h1:Go.Proofs.ltOf (wKo h l) x y=false) (h2:Go.Proofs.ltOf (wKo h l) y x=false):x=y:=by
 rw [wEP c] at h1 h2
 exact Subtype.ext (c.2.2.2.2.2 x.1 x.2 y.1 y.2 h1 h2)
theorem wJz (c:Cmp h l):(l.attach.mergeSort fun x y=>!Go.Proofs.ltOf (wKo h l) y x).map Subtype.val=l.mergeSort fun x y=>!ltB h y x:=by
 rw [List.map_mergeSort (s:=fun x y=>!ltB h y x) (fun a _ b _=>by rw [wEP c])]
 rw [nA]
end
theorem St.other {B:Base} {U:PHeap} {L:List Res} {w w':World} (h:St B U L w) {k b c T sz:Nat} {cs:List Value} (hk:L[k]?=some (.row (some ⟨b,0,none⟩) c T sz cs)) (K:Keep w w' (·=b)):St ⟨w',[],U⟩ U [] w' where
 os:=rfl
 tape:=TapeLe.refl w'
 output:=rfl
 size:=Nat.le_refl _
 old:=fun _ _ _=>rfl
 fro:=fun x o hx=>(K.block x (wBm (h.fro x o hx)) fun e=>by
  have:=(h.own _ (hM hk) b rfl).1
  subst e
  rw [hx] at this
  cases this).trans (h.fro x o hx)
 le:=fun _ _ h=>h
 src:=fun _ _ h=>.inl h
 at_:=fun _ h=>by cases h
 own:=fun _ h=>by cases h
 dj:=fun i j r s b h=>by simp at h
section
variable {P:Program} {f T:Nat} {A:Option Addr} {c:Nat} {w:World} {U:PHeap} {v:Value}
theorem wKA {α:Type} {h:α × α->Option Int} {AR:PHeap->α × α->List Value->Prop} {RR:PHeap->List Res->Value->Int->Prop} {B:Base} {L:List Res} {w w':World} {g b k:Nat} {cap cs:List Value} {val:α->Value} {sz:Nat}
  (hg:∀ U1 w1 x y vs,PHeap.Le U U1->St ⟨w1,[],U1⟩ U1 [] w1->AR U1 x vs->h x=some y->Gv P g ([] ++ vs ++ cap) w1 (wBu w1 [] U1 fun U_ L_ v=>RR U_ L_ v y))
  (hA:∀ U1 x y,AR U1 (x,y) [val x,val y]) (hR:∀ U1 L v n,RR U1 L v n->v=.int .i64 n) (hS:St B U L w) (hk:L[k]?=some (.row (some ⟨b,0,none⟩) c T sz cs)) (K:Keep w w' (·=b)) {x y:α} {n:Int} (hn:h (x,y)=some n) :
  Calls P g (#[val x,val y] ++ cap.toArray) w' fun e w2=>e=.returned (.int .i64 n)/\∃ q os',w2=Go.Sort.grow (w'.drewN q) os':=by
 have:=hg U w' (x,y) n _ (PHeap.Le.refl U) (hS.other hk K) (hA U x y) hn
 have e:([] ++ [val x,val y] ++ cap).toArray=#[val x,val y] ++ cap.toArray:=by simp
 unfold Gv at this
 rw [e] at this
 refine Calls.mono' this ?_
 rintro e w2 ⟨v,rfl,U',L',h1,h2⟩
 rw [hR _ _ _ _ h2]
 exact ⟨rfl,wJx h1.kp0⟩
theorem wHr {α:Type} {sz:Nat} {enc:α->List Value} {p r:List α} {h:α × α->Option Int} {AR:PHeap->α × α->List Value->Prop} {RR:PHeap->List Res->Value->Int->Prop} (he:∀ x,(enc x).length=sz) (ho:∀ x,∀ v ∈ enc x,v.oneCell'=true)
  (hA:∀ U1 x y,AR U1 (x,y) [.agg (enc x).toArray,.agg (enc y).toArray]) (hR:∀ U1 L v n,RR U1 L v n->v=.int .i64 n)
  (H:∀ {α:Type} [Inhabited α] (enc:α->List Value) (_:∀ x,(enc x).length=sz) (_:∀ x,∀ v ∈ enc x,v.oneCell'=true) (cf:α->α->Int) (_:Go.Sort.SWO (Go.Proofs.ltOf cf)) (g:Nat) (cb:Array Value) (blk off cap:Nat) (d:Array α) (w:World),(∀ args w,(callFunc g args).run P w=.ok (.enter g args) w) ->
   Go.Proofs.CmpLays P g cb enc sz cf blk off d.size w->Go.Sort.HoldsK enc sz w blk off d->blk < w.heap.size->d.size < 4611686018427387904->(∀ x y,(Go.Proofs.ltOf cf) x y=false->(Go.Proofs.ltOf cf) y x=false->x=y) ->
   Calls P f #[.slice (some ⟨blk,off,none⟩) d.size cap,.func (.func g) #[] cb] w fun e w'=>e=.returned (.tuple #[])/\∃ n os,w'=Go.Proofs.sortWorldK enc sz w blk off n (d.toList.mergeSort fun x y=>!(Go.Proofs.ltOf cf) y x).toArray os)
  (HN:∀ (p:Option Addr) (cap:Nat) (fv:Value) (w:World),Calls P f #[.slice p 0 cap,fv] w fun e w'=>e=.returned (.tuple #[])/\w'=w)
  (hS:St ⟨w,[.row A c T sz (hJ enc p)],U⟩ U [.row A c T sz (hJ enc p)] w) (hF:FnOK P U v AR RR h) (hz:0 < sz) (hv:∃ g cb,v=.func (.func g) #[] cb) (hm:wIW h p=some r) :
  Gv P f [.slice A p.length c,v] w (wBu w [.row A c T sz (hJ enc p)] U fun U_ L_ v=>v=.tuple #[]/\L_=[.row A c T sz (hJ enc r)]/\r.length=p.length):=by
 obtain ⟨hc,rfl⟩:=wJV hm
 have nil:p=[]->Gv P f [.slice A p.length c,v] w (wBu w [.row A c T sz (hJ enc p)] U fun U_ L_ v=>v=.tuple #[]/\L_=[.row A c T sz (hJ enc (p.mergeSort fun x y=>!ltB h y x))]/\(p.mergeSort fun x y=>!ltB h y x).length=p.length):=by
  rintro rfl
  refine Calls.mono' (HN A c v w) ?_
  rintro e w' ⟨rfl,rfl⟩
  exact ⟨_,rfl,U,_,hS,rfl,by simp,by simp⟩
 rcases hS.at_ _ (List.mem_cons_self ..) with ⟨rfl,rfl,h0⟩ | ⟨b,cur,rfl,_⟩
 ·refine nil ?_
  have:=congrArg List.length h0
  rw [wAG he] at this
  simp only [List.length_nil,Nat.mul_eq_zero] at this
  rcases this with h | h
  ·exact List.eq_nil_of_length_eq_zero h
  ·omega
 ·cases hp:p with
  | nil=>rw [<- hp];exact nil hp
  | cons x0 p0 =>
   rw [<- hp]
   haveI:Inhabited {x:α // x ∈ p}:=⟨⟨x0,by rw [hp];simp⟩⟩
   obtain ⟨h1,h2⟩:=hS.holds (k:=0) rfl
   obtain ⟨gid,fst,cap,e,hcf,hg⟩:=hF
   obtain ⟨g,cb,rfl⟩:=hv
   simp only [Value.func.injEq,Fn.func.injEq] at e
   obtain ⟨rfl,e2,rfl⟩:=e
   have e2:fst=[]:=by simpa using e2.symm
   subst e2
   have hat:∀ l2:List {x:α // x ∈ p},l2.flatMap (fun x=>enc x.1)=(l2.map Subtype.val).flatMap enc:=fun l2=>by rw [List.flatMap_map]
   have hH:Go.Sort.HoldsK (fun x:{x:α // x ∈ p}=>enc x.1) sz w b 0 p.attach.toArray:=by
    unfold Go.Sort.HoldsK
    rw [wJH (f:=fun x:{x:α // x ∈ p}=>enc x.1) (fun x=>he x.1)]
    show Go.Sort.Holds id w b 0 (p.attach.flatMap fun x=>enc x.1).toArray
    rw [hat,nA]
    exact h1
   have hl:=hc.1
   have:=H (fun x:{x:α // x ∈ p}=>enc x.1) (fun x=>he x.1) (fun x=>ho x.1) (wKo h p) (wKp hc) g cap.toArray b 0 c p.attach.toArray w hcf (fun m os dk _ x y=>?_) hH h2 (by simpa using hl) (wJy hc)
   ·simp only [List.size_toArray,List.length_attach] at this
    refine Calls.mono' this ?_
    rintro e w' ⟨rfl,n,os,rfl⟩
    refine ⟨_,rfl,U,_,?_,rfl,rfl,by simp⟩
    unfold Go.Proofs.sortWorldK Go.Sort.putRowK
    rw [wJH (f:=fun x:{x:α // x ∈ p}=>enc x.1) (fun x=>he x.1)]
    rw [List.toList_toArray,hat,wJz hc]
    exact hS.sorted (k:=0) (n:=n) (os:=os) rfl (by rw [wAG he,wAG he];simp)
   ·have K:Keep w (Go.Proofs.sortWorldK (fun x:{x:α // x ∈ p}=>enc x.1) sz w b 0 m dk os) (·=b):=by
     unfold Go.Proofs.sortWorldK Go.Sort.putRowK
     exact wHq w m b _ os
    have hs:=hc.2.1 x.1 x.2 y.1 y.2
    obtain ⟨n,hn⟩:=Option.isSome_iff_exists.1 hs
    have hcn:wKo h p x y=n:=by unfold wKo;rw [hn];rfl
    rw [hcn]
    exact wKA hg hA hR hS (k:=0) rfl K hn
end
end Go.KL
namespace Go.Proofs
open Go.Shelf
def Tryz.laysSlF06_f69_ren:Go.Shelf.Ren:=⟨fun | 6=>69 | 15=>121 | 14=>120 | 28=>191 | 29=>192 | 20=>183 | 21=>184 | 22=>185 | 23=>186 | 24=>187 | 25=>188 | 26=>189 | 27=>190 | 46=>237 | 47=>238 | 48=>239 | 49=>240 | 50=>241 | 57=>298 | n=>n,fun | 22=>107 | 24=>111 | 25=>186 | 3=>3 | 39=>246 | 0=>0 | 53=>124 | 55=>315 | 4=>4 | 46=>308 | 45=>307 | 50=>214 | 5=>5 | 9=>9 | 66=>348 | 70=>352 | 76=>380 | 77=>381 | n=>n,fun | n=>n⟩
def Tryz.laysSlF06_f131_ren:Go.Shelf.Ren:=⟨fun | 6=>131 | 15=>121 | 14=>212 | 28=>191 | 29=>192 | 20=>252 | 21=>253 | 22=>254 | 23=>255 | 24=>256 | 25=>257 | 26=>258 | 27=>259 | 46=>317 | 47=>238 | 48=>239 | 49=>318 | 50=>319 | 57=>333 | n=>n,fun | 22=>25 | 24=>40 | 25=>269 | 3=>3 | 39=>246 | 0=>0 | 53=>124 | 55=>315 | 4=>4 | 46=>308 | 45=>307 | 50=>214 | 5=>5 | 9=>9 | 66=>348 | 70=>352 | 76=>380 | 77=>381 | n=>n,fun | n=>n⟩
theorem Tryz.laysSlF06_f131:Go.Proofs.SlLaysF0.n6 Tryz.prog Tryz.laysSlF06_f131_ren:={
 mixed:=by kernel_rfl
 f6:=⟨Tryz.f131.name,by decide,Tryz.func131.trans (congrArg some (by kernel_rfl))⟩
 f14:=⟨Tryz.f212.name,by decide,Tryz.func212.trans (congrArg some (by kernel_rfl))⟩
 f15:=Tryz.func121.trans (congrArg some (by kernel_rfl))
 f20:=⟨Tryz.f252.name,by decide,Tryz.func252.trans (congrArg some (by kernel_rfl))⟩
 f21:=⟨Tryz.f253.name,by decide,Tryz.func253.trans (congrArg some (by kernel_rfl))⟩
 f22:=⟨Tryz.f254.name,by decide,Tryz.func254.trans (congrArg some (by kernel_rfl))⟩
 f23:=⟨Tryz.f255.name,by decide,Tryz.func255.trans (congrArg some (by kernel_rfl))⟩
 f24:=⟨Tryz.f256.name,by decide,Tryz.func256.trans (congrArg some (by kernel_rfl))⟩
 f25:=⟨Tryz.f257.name,by decide,Tryz.func257.trans (congrArg some (by kernel_rfl))⟩
 f26:=⟨Tryz.f258.name,by decide,Tryz.func258.trans (congrArg some (by kernel_rfl))⟩
 f27:=⟨Tryz.f259.name,by decide,Tryz.func259.trans (congrArg some (by kernel_rfl))⟩
 f28:=Tryz.func191.trans (congrArg some (by kernel_rfl))
 f29:=Tryz.func192.trans (congrArg some (by kernel_rfl))
 f46:=⟨Tryz.f317.name,by decide,Tryz.func317.trans (congrArg some (by kernel_rfl))⟩
 f47:=Tryz.func238.trans (congrArg some (by kernel_rfl))
 f48:=Tryz.func239.trans (congrArg some (by kernel_rfl))
 f49:=⟨Tryz.f318.name,by decide,Tryz.func318.trans (congrArg some (by kernel_rfl))⟩
 f50:=⟨Tryz.f319.name,by decide,Tryz.func319.trans (congrArg some (by kernel_rfl))⟩
 f57:=⟨Tryz.f333.name,by decide,Tryz.func333.trans (congrArg some (by kernel_rfl))⟩
 t0:=Tryz.underlying0
 a0:=Tryz.isAgg0
 z0:=Tryz.sizeOf0
 v0:=Tryz.zeroValue0
 t3:=Tryz.underlying3
 a3:=Tryz.isAgg3
 z3:=Tryz.sizeOf3
 v3:=Tryz.zeroValue3
 t4:=Tryz.underlying4
 a4:=Tryz.isAgg4
 z4:=Tryz.sizeOf4
 v4:=Tryz.zeroValue4
 t5:=Tryz.underlying5
 a5:=Tryz.isAgg5
 z5:=Tryz.sizeOf5
 v5:=Tryz.zeroValue5
 t9:=Tryz.underlying9
 a9:=Tryz.isAgg9
 z9:=Tryz.sizeOf9
 v9:=Tryz.zeroValue9
 t22:=Tryz.underlying25
 a22:=Tryz.isAgg25
 z22:=Tryz.sizeOf25
 v22:=Tryz.zeroValue25
 t25:=Tryz.underlying269
 a25:=Tryz.isAgg269
 z25:=Tryz.sizeOf269
 v25:=Tryz.zeroValue269
 t39:=Tryz.underlying246
 a39:=Tryz.isAgg246
 z39:=Tryz.sizeOf246
 v39:=Tryz.zeroValue246
 t45:=Tryz.underlying307
 a45:=Tryz.isAgg307
 z45:=Tryz.sizeOf307
 v45:=Tryz.zeroValue307
 t46:=Tryz.underlying308
 a46:=Tryz.isAgg308
 z46:=Tryz.sizeOf308
 v46:=Tryz.zeroValue308
 t50:=Tryz.underlying214
 a50:=Tryz.isAgg214
 z50:=Tryz.sizeOf214
 v50:=Tryz.zeroValue214
 t53:=Tryz.underlying124
 a53:=Tryz.isAgg124
 z53:=Tryz.sizeOf124
 v53:=Tryz.zeroValue124
 t55:=Tryz.underlying315
 a55:=Tryz.isAgg315
 z55:=Tryz.sizeOf315
 v55:=Tryz.zeroValue315
 t66:=Tryz.underlying348
 a66:=Tryz.isAgg348
 z66:=Tryz.sizeOf348
 v66:=Tryz.zeroValue348
 t70:=Tryz.underlying352
 a70:=Tryz.isAgg352
 z70:=Tryz.sizeOf352
 v70:=Tryz.zeroValue352
 t76:=Tryz.underlying380
 a76:=Tryz.isAgg380
 z76:=Tryz.sizeOf380
 v76:=Tryz.zeroValue380
 t77:=Tryz.underlying381
 a77:=Tryz.isAgg381
 z77:=Tryz.sizeOf381
 v77:=Tryz.zeroValue381 }
open Go.RowKit Go.Lib Go.Sort in
theorem Tryz.slices_SortFunc_none_f131 {α:Type} [Inhabited α] (p:Option Addr) (cap:Nat) (fv:Value) (w:World) :
  Calls Tryz.prog 131 #[.slice p 0 cap,fv] w fun e w'=>e=.returned (.tuple #[])/\w'=w:=AnyF.slices_SortFunc_none Tryz.laysSlF06_f131 p cap fv w
def Tryz.laysSlF06_f133_ren:Go.Shelf.Ren:=⟨fun | 6=>133 | 15=>121 | 14=>213 | 28=>191 | 29=>192 | 20=>260 | 21=>261 | 22=>262 | 23=>263 | 24=>264 | 25=>265 | 26=>266 | 27=>267 | 46=>320 | 47=>238 | 48=>239 | 49=>321 | 50=>322 | 57=>334 | n=>n,fun | 22=>26 | 24=>46 | 25=>271 | 3=>3 | 39=>246 | 0=>0 | 53=>124 | 55=>315 | 4=>4 | 46=>308 | 45=>307 | 50=>214 | 5=>5 | 9=>9 | 66=>348 | 70=>352 | 76=>380 | 77=>381 | n=>n,fun | n=>n⟩
theorem Tryz.laysSlF06_f133:Go.Proofs.SlLaysF0.n6 Tryz.prog Tryz.laysSlF06_f133_ren:={
 mixed:=by kernel_rfl
 f6:=⟨Tryz.f133.name,by decide,Tryz.func133.trans (congrArg some (by kernel_rfl))⟩
 f14:=⟨Tryz.f213.name,by decide,Tryz.func213.trans (congrArg some (by kernel_rfl))⟩
 f15:=Tryz.func121.trans (congrArg some (by kernel_rfl))
 f20:=⟨Tryz.f260.name,by decide,Tryz.func260.trans (congrArg some (by kernel_rfl))⟩
 f21:=⟨Tryz.f261.name,by decide,Tryz.func261.trans (congrArg some (by kernel_rfl))⟩
 f22:=⟨Tryz.f262.name,by decide,Tryz.func262.trans (congrArg some (by kernel_rfl))⟩
 f23:=⟨Tryz.f263.name,by decide,Tryz.func263.trans (congrArg some (by kernel_rfl))⟩
 f24:=⟨Tryz.f264.name,by decide,Tryz.func264.trans (congrArg some (by kernel_rfl))⟩
 f25:=⟨Tryz.f265.name,by decide,Tryz.func265.trans (congrArg some (by kernel_rfl))⟩
 f26:=⟨Tryz.f266.name,by decide,Tryz.func266.trans (congrArg some (by kernel_rfl))⟩
 f27:=⟨Tryz.f267.name,by decide,Tryz.func267.trans (congrArg some (by kernel_rfl))⟩
 f28:=Tryz.func191.trans (congrArg some (by kernel_rfl))
 f29:=Tryz.func192.trans (congrArg some (by kernel_rfl))
 f46:=⟨Tryz.f320.name,by decide,Tryz.func320.trans (congrArg some (by kernel_rfl))⟩
 f47:=Tryz.func238.trans (congrArg some (by kernel_rfl))
 f48:=Tryz.func239.trans (congrArg some (by kernel_rfl))
 f49:=⟨Tryz.f321.name,by decide,Tryz.func321.trans (congrArg some (by kernel_rfl))⟩
 f50:=⟨Tryz.f322.name,by decide,Tryz.func322.trans (congrArg some (by kernel_rfl))⟩
 f57:=⟨Tryz.f334.name,by decide,Tryz.func334.trans (congrArg some (by kernel_rfl))⟩
 t0:=Tryz.underlying0
 a0:=Tryz.isAgg0
 z0:=Tryz.sizeOf0
 v0:=Tryz.zeroValue0
 t3:=Tryz.underlying3
 a3:=Tryz.isAgg3
 z3:=Tryz.sizeOf3
 v3:=Tryz.zeroValue3
 t4:=Tryz.underlying4
 a4:=Tryz.isAgg4
 z4:=Tryz.sizeOf4
 v4:=Tryz.zeroValue4
 t5:=Tryz.underlying5
 a5:=Tryz.isAgg5
 z5:=Tryz.sizeOf5
 v5:=Tryz.zeroValue5
 t9:=Tryz.underlying9
 a9:=Tryz.isAgg9
 z9:=Tryz.sizeOf9
 v9:=Tryz.zeroValue9
 t22:=Tryz.underlying26
 a22:=Tryz.isAgg26
 z22:=Tryz.sizeOf26
 v22:=Tryz.zeroValue26
 t25:=Tryz.underlying271
 a25:=Tryz.isAgg271
 z25:=Tryz.sizeOf271
 v25:=Tryz.zeroValue271
 t39:=Tryz.underlying246
 a39:=Tryz.isAgg246
 z39:=Tryz.sizeOf246
 v39:=Tryz.zeroValue246
 t45:=Tryz.underlying307
 a45:=Tryz.isAgg307
 z45:=Tryz.sizeOf307
 v45:=Tryz.zeroValue307
 t46:=Tryz.underlying308
 a46:=Tryz.isAgg308
 z46:=Tryz.sizeOf308
 v46:=Tryz.zeroValue308
 t50:=Tryz.underlying214
 a50:=Tryz.isAgg214
 z50:=Tryz.sizeOf214
 v50:=Tryz.zeroValue214
 t53:=Tryz.underlying124
 a53:=Tryz.isAgg124
 z53:=Tryz.sizeOf124
 v53:=Tryz.zeroValue124
 t55:=Tryz.underlying315
 a55:=Tryz.isAgg315
 z55:=Tryz.sizeOf315
 v55:=Tryz.zeroValue315
 t66:=Tryz.underlying348
 a66:=Tryz.isAgg348
 z66:=Tryz.sizeOf348
 v66:=Tryz.zeroValue348
 t70:=Tryz.underlying352
 a70:=Tryz.isAgg352
 z70:=Tryz.sizeOf352
 v70:=Tryz.zeroValue352
 t76:=Tryz.underlying380
 a76:=Tryz.isAgg380
 z76:=Tryz.sizeOf380
 v76:=Tryz.zeroValue380
 t77:=Tryz.underlying381
 a77:=Tryz.isAgg381
 z77:=Tryz.sizeOf381
 v77:=Tryz.zeroValue381 }
open Go.RowKit Go.Lib Go.Sort in
theorem Tryz.slices_SortFunc_none_f133 {α:Type} [Inhabited α] (p:Option Addr) (cap:Nat) (fv:Value) (w:World) :
  Calls Tryz.prog 133 #[.slice p 0 cap,fv] w fun e w'=>e=.returned (.tuple #[])/\w'=w:=AnyF.slices_SortFunc_none Tryz.laysSlF06_f133 p cap fv w
open Go.RowKit Go.Lib Go.Sort in
theorem Tryz.slices_SortFunc_total_f131 {α:Type} [Inhabited α] (k:Nat) (aE:∀ w,(isAgg 40).run Tryz.prog w=.ok true w) (zE:∀ w,(Go.sizeOf 40).run Tryz.prog w=.ok k w) (enc:α->List Value) (hk:∀ x,(enc x).length=k) (h1:∀ x,∀ v ∈ enc x,v.oneCell'=true) (cf:α->α->Int) (hO:SWO (ltOf cf)) (g:Nat) (cb:Array Value) (blk off cap:Nat) (d:Array α) (w:World) (eg:∀ args w,(callFunc g args).run Tryz.prog w=.ok (.enter g args) w) (hcmp:CmpLays Tryz.prog g cb enc k cf blk off d.size w) (hH:HoldsK enc k w blk off d) (hblk:blk < w.heap.size) (hsz:d.size < 4611686018427387904) (hT:∀ x y,(ltOf cf) x y=false->(ltOf cf) y x=false->x=y) :
  Calls Tryz.prog 131 #[.slice (some ⟨blk,off,none⟩) d.size cap,.func (.func g) #[] cb] w fun e w' =>
   e=.returned (.tuple #[])/\∃ n os,w'=sortWorldK enc k w blk off n (d.toList.mergeSort fun x y=>!(ltOf cf) y x).toArray os:=AnyQ.slices_SortFunc_total Tryz.laysSlF06_f131 k aE zE enc hk h1 cf hO g cb blk off cap d w eg hcmp hH hblk hsz hT
open Go.RowKit Go.Lib Go.Sort in
theorem Tryz.slices_SortFunc_total_f133 {α:Type} [Inhabited α] (k:Nat) (aE:∀ w,(isAgg 46).run Tryz.prog w=.ok true w) (zE:∀ w,(Go.sizeOf 46).run Tryz.prog w=.ok k w) (enc:α->List Value) (hk:∀ x,(enc x).length=k) (h1:∀ x,∀ v ∈ enc x,v.oneCell'=true) (cf:α->α->Int) (hO:SWO (ltOf cf)) (g:Nat) (cb:Array Value) (blk off cap:Nat) (d:Array α) (w:World) (eg:∀ args w,(callFunc g args).run Tryz.prog w=.ok (.enter g args) w) (hcmp:CmpLays Tryz.prog g cb enc k cf blk off d.size w) (hH:HoldsK enc k w blk off d) (hblk:blk < w.heap.size) (hsz:d.size < 4611686018427387904) (hT:∀ x y,(ltOf cf) x y=false->(ltOf cf) y x=false->x=y) :
  Calls Tryz.prog 133 #[.slice (some ⟨blk,off,none⟩) d.size cap,.func (.func g) #[] cb] w fun e w' =>
   e=.returned (.tuple #[])/\∃ n os,w'=sortWorldK enc k w blk off n (d.toList.mergeSort fun x y=>!(ltOf cf) y x).toArray os:=AnyQ.slices_SortFunc_total Tryz.laysSlF06_f133 k aE zE enc hk h1 cf hO g cb blk off cap d w eg hcmp hH hblk hsz hT
end Go.Proofs
