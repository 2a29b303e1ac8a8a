import Derived.Test.YthbficbpebiekaaGreatY0
import Derived.Shelf.SlSortCmp.NoneTotal
import Derived.Shelf.Sort.Plain
import Derived.Shelf.Slices.In.SortNone
import Derived.Ground.SlsfProg
import Derived.Test.YthbficbpebiekaaGreatProg
set_option linter.all false
open List renaming flatMap->nA,getElem?_eq_getElem->nD,mem_of_getElem?->nI,getElem?_take->nJ
open Go.Value renaming int->nB
open Array renaming getElem?_modify->nE,getElem?_toList->nG,getElem?_mapIdx->nH
open Option renaming map_some->nK
namespace Go.KL
open Go.RowKit
theorem wNy (w:World) (n b:Nat) (F:Array Value) (os:Array Obj):Keep w (Go.Sort.grow (Go.Sort.putRow id (Go.Sort.ahead w n) b 0 F) os) (·=b):=by
 refine ⟨rfl,⟨rfl,Nat.le_add_right _ _⟩,rfl,?_,fun k hk hx=>?_⟩
 ·rw [Go.Sort.size_grow,Go.Sort.size_putRow]
  exact Nat.le_add_right _ _
 ·rw [Go.Sort.heap_grow_old _ _ (by rw [Go.Sort.size_putRow];exact hk)]
  show ((Go.Sort.ahead w n).heap.modify b _)[k]?=_
  rw [nE,if_neg fun e=>hx e.symm]
  rfl
section
variable {B:Base} {U:PHeap} {L:List Res} {w:World}
theorem St.sorted (h:St B U L w) {k b c T sz n:Nat} {cs cs':List Value} {os:Array Obj} (hk:L[k]?=some (.row (some ⟨b,0,none⟩) c T sz cs)) (hl:cs'.length=cs.length) :
  St B U (L.set k (.row (some ⟨b,0,none⟩) c T sz cs')) (Go.Sort.grow (Go.Sort.putRow id (Go.Sort.ahead w n) b 0 cs'.toArray) os):=by
 rcases h.at_ _ (nI hk) with ⟨h0,_⟩ | ⟨b',cur,e,h1,h2,h3,h4,h5⟩
 ·cases h0
 ·cases e
  refine h.set hk ((wNy w n b _ os).weak fun i _ e=>by subst e;rfl) (.inr ⟨b,Go.Sort.putCells id 0 cs'.toArray cur,rfl,?_,by rw [hl];exact h2,h3,?_,?_⟩) fun x hx=>.inl hx
  ·rw [Go.Sort.heap_grow_old _ _ (by rw [Go.Sort.size_putRow];exact wAR h1)]
   show ((Go.Sort.ahead w n).heap.modify b _)[b]?=_
   rw [nE,if_pos rfl,Go.Sort.heap_ahead,h1]
   rfl
  ·simp [Go.Sort.putCells,h4]
  ·apply List.ext_getElem?
   intro j
   rw [nJ]
   by_cases hj:j < cs'.length
   ·rw [if_pos hj,nG]
    simp only [Go.Sort.putCells,nH]
    have hc:j < cur.size:=by omega
    rw [Array.getElem?_eq_getElem hc,nK,if_pos ⟨Nat.zero_le _,by simpa using hj⟩,nD hj]
    simp [hj]
   ·rw [if_neg hj,List.getElem?_eq_none (by omega)]
theorem St.holds (h:St B U L w) {k b c T sz:Nat} {cs:List Value} (hk:L[k]?=some (.row (some ⟨b,0,none⟩) c T sz cs)):Go.Sort.Holds id w b 0 cs.toArray/\b < w.heap.size:=by
 rcases h.at_ _ (nI hk) with ⟨h0,_⟩ | ⟨b',cur,e,h1,h2,h3,h4,h5⟩
 ·cases h0
 ·cases e
  refine ⟨fun j hj=>?_,wAR h1⟩
  have hj:j < cs.length:=by simpa using hj
  constructor
  ·have this:(cur.toList.take cs.length)[j]?=cs[j]?:=congrArg (·[j]?) h5
   rw [nJ,if_pos hj,nG,nD hj] at this
   simp [World.cell?,h1,this,hj]
  ·simp [World.frozen?,h1]
end
theorem wKq {α:Type} {f:α->Value} (l:List α):l.flatMap (fun x=>[f x])=l.map f:=by
 induction l with
 | nil=>rfl
 | cons a l ih=>simp [ih]
section
variable {α:Type} [Inhabited α]
theorem wMg (f:α->Value) (w:World) (b off:Nat) (d:Array α):Go.Sort.putRow f w b off d=Go.Sort.putRow id w b off (d.map f):=by
 unfold Go.Sort.putRow
 refine Go.Sort.mapBlock_congr w b _ _ fun c _ _ _=>?_
 unfold Go.Sort.putCells
 apply Array.ext_getElem?
 intro k
 simp only [nH,Array.size_map]
 cases c[k]? with
 | none=>rfl
 | some x =>
  simp only [nK]
  by_cases hr:off <= k/\k < off + d.size
  ·rw [if_pos hr,if_pos hr,getElem!_pos d _ (by omega),getElem!_pos (d.map f) _ (by simp;omega)]
   simp
  ·rw [if_neg hr,if_neg hr]
theorem wNz (f:α->Value) (w:World) (b off:Nat) (d:Array α) (h:Go.Sort.Holds id w b off (d.map f)):Go.Sort.Holds f w b off d:=fun j hj=>by
 have:=h j (by simpa using hj)
 rw [getElem!_pos (d.map f) _ (by simpa using hj)] at this
 rw [getElem!_pos d _ hj]
 simpa using this
end
theorem wPp {P:Program} {f T:Nat} {A:Option Addr} {c:Nat} {p r:List Int} {w:World} {U:PHeap}
  (H:∀ (blk off cap:Nat) (zs:List Int) (w:World),Go.Sort.Holds (nB .i64) w blk off zs.toArray->blk < w.heap.size->zs.length < 4611686018427387904->Calls P f #[.slice (some ⟨blk,off,none⟩) zs.length cap] w fun e w'=>e=.returned (.tuple #[])/\∃ n os,w'=Go.Sort.grow (Go.Sort.putRow (nB .i64) (Go.Sort.ahead w n) blk off (zs.mergeSort fun x y=>decide (x <= y)).toArray) os)
  (HN:∀ (p:Option Addr) (cap:Nat) (w:World),Calls P f #[.slice p 0 cap] w fun e w'=>e=.returned (.tuple #[])/\w'=w)
  (hS:St ⟨w,[.row A c T 1 (nA encI p)],U⟩ U [.row A c T 1 (nA encI p)] w) (hm:wPo p=some r) :
  Gv P f [.slice A p.length c] w (wCj w [.row A c T 1 (nA encI p)] U fun U_ L_ v=>v=.tuple #[]/\L_=[.row A c T 1 (nA encI r)]/\r.length=p.length):=by
 unfold wPo at hm
 split at hm
 ·rename_i hlen
  cases hm
  have hfl:∀ l:List Int,l.flatMap encI=l.map (nB .i64):=fun l=>wKq l
  have hr:=hS.at_ _ (List.mem_cons_self ..)
  have nil:p=[]->Gv P f [.slice A p.length c] w (wCj w [.row A c T 1 (nA encI p)] U fun U_ L_ v=>v=.tuple #[]/\L_=[.row A c T 1 (nA encI (p.mergeSort fun x y=>decide (x <= y)))]/\(p.mergeSort fun x y=>decide (x <= y)).length=p.length):=by
   rintro rfl
   refine Calls.mono' (HN A c w) ?_
   rintro e w' ⟨rfl,rfl⟩
   exact ⟨_,rfl,U,_,hS,rfl,by simp,by simp⟩
  rcases hr with ⟨rfl,rfl,h0⟩ | ⟨b,cur,rfl,_⟩
  ·refine nil ?_
   rw [hfl] at h0
   simpa using h0
  ·obtain ⟨h1,h2⟩:=hS.holds (k:=0) rfl
   rw [hfl] at h1
   refine Calls.mono' (H b 0 c p w (wNz _ _ _ _ _ (by simpa using h1)) h2 hlen) ?_
   rintro e w' ⟨rfl,n,os,rfl⟩
   refine ⟨_,rfl,U,_,?_,rfl,rfl,by simp⟩
   rw [wMg]
   have:=hS.sorted (k:=0) (n:=n) (os:=os) (cs':=(p.mergeSort fun x y=>decide (x <= y)).map (nB .i64)) rfl (by rw [hfl];simp)
   rw [hfl (p.mergeSort fun x y=>decide (x <= y))]
   simpa using this
 ·cases hm
section
variable {α:Type} {h:α × α->Option Int} {l:List α}
end
section
variable {P:Program} {f T:Nat} {A:Option Addr} {c:Nat} {w:World} {U:PHeap} {v:Value}
end
end Go.KL
namespace Go.Proofs
open Go.Shelf
def Tryz.lays189_ren:Go.Shelf.Ren:=⟨fun | 189=>35 | 125=>108 | 257=>107 | 128=>191 | 129=>192 | 294=>182 | 295=>183 | 296=>184 | 297=>185 | 298=>186 | 299=>187 | 216=>188 | 300=>189 | 301=>190 | 328=>254 | 329=>255 | 330=>256 | 331=>257 | 332=>258 | 215=>236 | 343=>306 | n=>n,fun | 28=>22 | 3=>3 | 46=>190 | 0=>0 | 51=>182 | 53=>280 | 4=>4 | 183=>272 | 182=>271 | 131=>276 | 5=>5 | 9=>9 | 218=>344 | 222=>348 | 228=>375 | 229=>376 | n=>n,fun | n=>n⟩
theorem Tryz.lays189:Go.Proofs.Lays.n189 Tryz.prog Tryz.lays189_ren:={
 mixed:=by kernel_rfl
 f125:=Tryz.func108.trans (congrArg some (by kernel_rfl))
 f128:=Tryz.func191.trans (congrArg some (by kernel_rfl))
 f129:=Tryz.func192.trans (congrArg some (by kernel_rfl))
 f189:=Tryz.func35.trans (congrArg some (by kernel_rfl))
 f215:=Tryz.func236.trans (congrArg some (by kernel_rfl))
 f216:=Tryz.func188.trans (congrArg some (by kernel_rfl))
 f257:=Tryz.func107.trans (congrArg some (by kernel_rfl))
 f294:=Tryz.func182.trans (congrArg some (by kernel_rfl))
 f295:=Tryz.func183.trans (congrArg some (by kernel_rfl))
 f296:=Tryz.func184.trans (congrArg some (by kernel_rfl))
 f297:=Tryz.func185.trans (congrArg some (by kernel_rfl))
 f298:=Tryz.func186.trans (congrArg some (by kernel_rfl))
 f299:=Tryz.func187.trans (congrArg some (by kernel_rfl))
 f300:=Tryz.func189.trans (congrArg some (by kernel_rfl))
 f301:=Tryz.func190.trans (congrArg some (by kernel_rfl))
 f328:=Tryz.func254.trans (congrArg some (by kernel_rfl))
 f329:=Tryz.func255.trans (congrArg some (by kernel_rfl))
 f330:=Tryz.func256.trans (congrArg some (by kernel_rfl))
 f331:=Tryz.func257.trans (congrArg some (by kernel_rfl))
 f332:=Tryz.func258.trans (congrArg some (by kernel_rfl))
 f343:=Tryz.func306.trans (congrArg some (by kernel_rfl))
 t0:=Tryz.underlying0
 a0:=Tryz.isAgg0
 z0:=Tryz.sizeOf0
 v0:=Tryz.zeroValue0
 t3:=Tryz.underlying3
 a3:=Tryz.isAgg3
 z3:=Tryz.sizeOf3
 v3:=Tryz.zeroValue3
 t4:=Tryz.underlying4
 a4:=Tryz.isAgg4
 z4:=Tryz.sizeOf4
 v4:=Tryz.zeroValue4
 t5:=Tryz.underlying5
 a5:=Tryz.isAgg5
 z5:=Tryz.sizeOf5
 v5:=Tryz.zeroValue5
 t9:=Tryz.underlying9
 a9:=Tryz.isAgg9
 z9:=Tryz.sizeOf9
 v9:=Tryz.zeroValue9
 t28:=Tryz.underlying22
 a28:=Tryz.isAgg22
 z28:=Tryz.sizeOf22
 v28:=Tryz.zeroValue22
 t46:=Tryz.underlying190
 a46:=Tryz.isAgg190
 z46:=Tryz.sizeOf190
 v46:=Tryz.zeroValue190
 t51:=Tryz.underlying182
 a51:=Tryz.isAgg182
 z51:=Tryz.sizeOf182
 v51:=Tryz.zeroValue182
 t53:=Tryz.underlying280
 a53:=Tryz.isAgg280
 z53:=Tryz.sizeOf280
 v53:=Tryz.zeroValue280
 t131:=Tryz.underlying276
 a131:=Tryz.isAgg276
 z131:=Tryz.sizeOf276
 v131:=Tryz.zeroValue276
 t182:=Tryz.underlying271
 a182:=Tryz.isAgg271
 z182:=Tryz.sizeOf271
 v182:=Tryz.zeroValue271
 t183:=Tryz.underlying272
 a183:=Tryz.isAgg272
 z183:=Tryz.sizeOf272
 v183:=Tryz.zeroValue272
 t218:=Tryz.underlying344
 a218:=Tryz.isAgg344
 z218:=Tryz.sizeOf344
 v218:=Tryz.zeroValue344
 t222:=Tryz.underlying348
 a222:=Tryz.isAgg348
 z222:=Tryz.sizeOf348
 v222:=Tryz.zeroValue348
 t228:=Tryz.underlying375
 a228:=Tryz.isAgg375
 z228:=Tryz.sizeOf375
 v228:=Tryz.zeroValue375
 t229:=Tryz.underlying376
 a229:=Tryz.isAgg376
 z229:=Tryz.sizeOf376
 v229:=Tryz.zeroValue376 }
open Go.Sort Go.RowKit in
theorem Tryz.slices_Sort_int (blk off cap:Nat) (zs:List Int) (w:World) (hH:Holds (nB .i64) w blk off zs.toArray) (hblk:blk < w.heap.size) (hsz:zs.length < 4611686018427387904) :
  Calls Tryz.prog 35 #[.slice (some ⟨blk,off,none⟩) zs.length cap] w fun e w' =>
   e=.returned (.tuple #[])/\∃ n os,w'=grow (putRow (nB .i64) (Sort.ahead w n) blk off (zs.mergeSort fun x y=>decide (x <= y)).toArray) os:=Any.slices_Sort_int Tryz.lays189 blk off cap zs w hH hblk hsz
open Go.RowKit Go.Sort in
theorem Tryz.slices_Sort_int_none (p:Option Addr) (cap:Nat) (w:World) :
  Calls Tryz.prog 35 #[.slice p 0 cap] w fun e w'=>e=.returned (.tuple #[])/\w'=w:=Any.slices_Sort_int_none Tryz.lays189 p cap w
end Go.Proofs
