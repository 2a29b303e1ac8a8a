import Derived.Test.YtkeeechdijfkhaaGreatY0
import Derived.Test.YtkeeechdijfkhaaGreatY1
import Derived.Shelf.SlSortCmp.NoneTotal
import Derived.Shelf.Sort.Plain
import Derived.Shelf.Slices.In.SortNone
import Derived.Shelf.Bits.Mul64
import Derived.Ground.Names2Prog
import Derived.Ground.SlsfProg
import Derived.Test.YtkeeechdijfkhaaGreatProg
set_option linter.all false
open List renaming flatMap->nA,getElem?_eq_getElem->nD,mem_of_getElem?->nI,getElem?_take->nJ
open Go.Value renaming int->nB
open Array renaming getElem?_modify->nE,getElem?_toList->nG,getElem?_mapIdx->nH
open Option renaming map_some->nK
namespace Go.KL
open Go.RowKit
theorem wNe (w:World) (n b:Nat) (F:Array Value) (os:Array Obj):Keep w (Go.Sort.grow (Go.Sort.putRow id (Go.Sort.ahead w n) b 0 F) os) (·=b):=by
 refine ⟨rfl,⟨rfl,Nat.le_add_right _ _⟩,rfl,?_,fun k hk hx=>?_⟩
 ·rw [Go.Sort.size_grow,Go.Sort.size_putRow]
  exact Nat.le_add_right _ _
 ·rw [Go.Sort.heap_grow_old _ _ (by rw [Go.Sort.size_putRow];exact hk)]
  show ((Go.Sort.ahead w n).heap.modify b _)[k]?=_
  rw [nE,if_neg fun e=>hx e.symm]
  rfl
section
variable {B:Base} {U:PHeap} {L:List Res} {w:World}
theorem St.sorted (h:St B U L w) {k b c T sz n:Nat} {cs cs':List Value} {os:Array Obj} (hk:L[k]?=some (.row (some ⟨b,0,none⟩) c T sz cs)) (hl:cs'.length=cs.length) :
  St B U (L.set k (.row (some ⟨b,0,none⟩) c T sz cs')) (Go.Sort.grow (Go.Sort.putRow id (Go.Sort.ahead w n) b 0 cs'.toArray) os):=by
 rcases h.at_ _ (nI hk) with ⟨h0,_⟩ | ⟨b',cur,e,h1,h2,h3,h4,h5⟩
 ·cases h0
 ·cases e
  refine h.set hk ((wNe w n b _ os).weak fun i _ e=>by subst e;rfl) (.inr ⟨b,Go.Sort.putCells id 0 cs'.toArray cur,rfl,?_,by rw [hl];exact h2,h3,?_,?_⟩) fun x hx=>.inl hx
  ·rw [Go.Sort.heap_grow_old _ _ (by rw [Go.Sort.size_putRow];exact wAc h1)]
   show ((Go.Sort.ahead w n).heap.modify b _)[b]?=_
   rw [nE,if_pos rfl,Go.Sort.heap_ahead,h1]
   rfl
  ·simp [Go.Sort.putCells,h4]
  ·apply List.ext_getElem?
   intro j
   rw [nJ]
   by_cases hj:j < cs'.length
   ·rw [if_pos hj,nG]
    simp only [Go.Sort.putCells,nH]
    have hc:j < cur.size:=by omega
    rw [Array.getElem?_eq_getElem hc,nK,if_pos ⟨Nat.zero_le _,by simpa using hj⟩,nD hj]
    simp [hj]
   ·rw [if_neg hj,List.getElem?_eq_none (by omega)]
theorem St.holds (h:St B U L w) {k b c T sz:Nat} {cs:List Value} (hk:L[k]?=some (.row (some ⟨b,0,none⟩) c T sz cs)):Go.Sort.Holds id w b 0 cs.toArray/\b < w.heap.size:=by
 rcases h.at_ _ (nI hk) with ⟨h0,_⟩ | ⟨b',cur,e,h1,h2,h3,h4,h5⟩
 ·cases h0
 ·cases e
  refine ⟨fun j hj=>?_,wAc h1⟩
  have hj:j < cs.length:=by simpa using hj
  constructor
  ·have this:(cur.toList.take cs.length)[j]?=cs[j]?:=congrArg (·[j]?) h5
   rw [nJ,if_pos hj,nG,nD hj] at this
   simp [World.cell?,h1,this,hj]
  ·simp [World.frozen?,h1]
end
theorem wKY {α:Type} {f:α->Value} (l:List α):l.flatMap (fun x=>[f x])=l.map f:=by
 induction l with
 | nil=>rfl
 | cons a l ih=>simp [ih]
section
variable {α:Type} [Inhabited α]
theorem wMO (f:α->Value) (w:World) (b off:Nat) (d:Array α):Go.Sort.putRow f w b off d=Go.Sort.putRow id w b off (d.map f):=by
 unfold Go.Sort.putRow
 refine Go.Sort.mapBlock_congr w b _ _ fun c _ _ _=>?_
 unfold Go.Sort.putCells
 apply Array.ext_getElem?
 intro k
 simp only [nH,Array.size_map]
 cases c[k]? with
 | none=>rfl
 | some x =>
  simp only [nK]
  by_cases hr:off <= k/\k < off + d.size
  ·rw [if_pos hr,if_pos hr,getElem!_pos d _ (by omega),getElem!_pos (d.map f) _ (by simp;omega)]
   simp
  ·rw [if_neg hr,if_neg hr]
theorem wNf (f:α->Value) (w:World) (b off:Nat) (d:Array α) (h:Go.Sort.Holds id w b off (d.map f)):Go.Sort.Holds f w b off d:=fun j hj=>by
 have:=h j (by simpa using hj)
 rw [getElem!_pos (d.map f) _ (by simpa using hj)] at this
 rw [getElem!_pos d _ hj]
 simpa using this
end
theorem wPO {P:Program} {f T:Nat} {A:Option Addr} {c:Nat} {p r:List Int} {w:World} {U:PHeap}
  (H:∀ (blk off cap:Nat) (zs:List Int) (w:World),Go.Sort.Holds (nB .i64) w blk off zs.toArray->blk < w.heap.size->zs.length < 4611686018427387904->Calls P f #[.slice (some ⟨blk,off,none⟩) zs.length cap] w fun e w'=>e=.returned (.tuple #[])/\∃ n os,w'=Go.Sort.grow (Go.Sort.putRow (nB .i64) (Go.Sort.ahead w n) blk off (zs.mergeSort fun x y=>decide (x <= y)).toArray) os)
  (HN:∀ (p:Option Addr) (cap:Nat) (w:World),Calls P f #[.slice p 0 cap] w fun e w'=>e=.returned (.tuple #[])/\w'=w)
  (hS:St ⟨w,[.row A c T 1 (nA encI p)],U⟩ U [.row A c T 1 (nA encI p)] w) (hm:wPN p=some r) :
  Gv P f [.slice A p.length c] w (wCQ w [.row A c T 1 (nA encI p)] U fun U_ L_ v=>v=.tuple #[]/\L_=[.row A c T 1 (nA encI r)]/\r.length=p.length):=by
 unfold wPN at hm
 split at hm
 ·rename_i hlen
  cases hm
  have hfl:∀ l:List Int,l.flatMap encI=l.map (nB .i64):=fun l=>wKY l
  have hr:=hS.at_ _ (List.mem_cons_self ..)
  have nil:p=[]->Gv P f [.slice A p.length c] w (wCQ w [.row A c T 1 (nA encI p)] U fun U_ L_ v=>v=.tuple #[]/\L_=[.row A c T 1 (nA encI (p.mergeSort fun x y=>decide (x <= y)))]/\(p.mergeSort fun x y=>decide (x <= y)).length=p.length):=by
   rintro rfl
   refine Calls.mono' (HN A c w) ?_
   rintro e w' ⟨rfl,rfl⟩
   exact ⟨_,rfl,U,_,hS,rfl,by simp,by simp⟩
  rcases hr with ⟨rfl,rfl,h0⟩ | ⟨b,cur,rfl,_⟩
  ·refine nil ?_
   rw [hfl] at h0
   simpa using h0
  ·obtain ⟨h1,h2⟩:=hS.holds (k:=0) rfl
   rw [hfl] at h1
   refine Calls.mono' (H b 0 c p w (wNf _ _ _ _ _ (by simpa using h1)) h2 hlen) ?_
   rintro e w' ⟨rfl,n,os,rfl⟩
   refine ⟨_,rfl,U,_,?_,rfl,rfl,by simp⟩
   rw [wMO]
   have:=hS.sorted (k:=0) (n:=n) (os:=os) (cs':=(p.mergeSort fun x y=>decide (x <= y)).map (nB .i64)) rfl (by rw [hfl];simp)
   rw [hfl (p.mergeSort fun x y=>decide (x <= y))]
   simpa using this
 ·cases hm
end Go.KL
namespace Go.Proofs
open Go.Shelf
def Tryz.lays189_ren:Go.Shelf.Ren:=⟨fun | 189=>20 | 125=>35 | 257=>34 | 128=>55 | 129=>56 | 294=>46 | 295=>47 | 296=>48 | 297=>49 | 298=>50 | 299=>51 | 216=>52 | 300=>53 | 301=>54 | 328=>76 | 329=>77 | 330=>78 | 331=>79 | 332=>80 | 215=>81 | 343=>98 | n=>n,fun | 28=>23 | 3=>3 | 46=>100 | 0=>0 | 51=>58 | 53=>132 | 4=>4 | 183=>123 | 182=>122 | 131=>128 | 5=>5 | 9=>9 | 218=>155 | 222=>159 | 228=>188 | 229=>183 | n=>n,fun | n=>n⟩
theorem Tryz.lays189:Go.Proofs.Lays.n189 Tryz.prog Tryz.lays189_ren:={
 mixed:=by kernel_rfl
 f125:=Tryz.func35.trans (congrArg some (by kernel_rfl))
 f128:=Tryz.func55.trans (congrArg some (by kernel_rfl))
 f129:=Tryz.func56.trans (congrArg some (by kernel_rfl))
 f189:=Tryz.func20.trans (congrArg some (by kernel_rfl))
 f215:=Tryz.func81.trans (congrArg some (by kernel_rfl))
 f216:=Tryz.func52.trans (congrArg some (by kernel_rfl))
 f257:=Tryz.func34.trans (congrArg some (by kernel_rfl))
 f294:=Tryz.func46.trans (congrArg some (by kernel_rfl))
 f295:=Tryz.func47.trans (congrArg some (by kernel_rfl))
 f296:=Tryz.func48.trans (congrArg some (by kernel_rfl))
 f297:=Tryz.func49.trans (congrArg some (by kernel_rfl))
 f298:=Tryz.func50.trans (congrArg some (by kernel_rfl))
 f299:=Tryz.func51.trans (congrArg some (by kernel_rfl))
 f300:=Tryz.func53.trans (congrArg some (by kernel_rfl))
 f301:=Tryz.func54.trans (congrArg some (by kernel_rfl))
 f328:=Tryz.func76.trans (congrArg some (by kernel_rfl))
 f329:=Tryz.func77.trans (congrArg some (by kernel_rfl))
 f330:=Tryz.func78.trans (congrArg some (by kernel_rfl))
 f331:=Tryz.func79.trans (congrArg some (by kernel_rfl))
 f332:=Tryz.func80.trans (congrArg some (by kernel_rfl))
 f343:=Tryz.func98.trans (congrArg some (by kernel_rfl))
 t0:=Tryz.underlying0
 a0:=Tryz.isAgg0
 z0:=Tryz.sizeOf0
 v0:=Tryz.zeroValue0
 t3:=Tryz.underlying3
 a3:=Tryz.isAgg3
 z3:=Tryz.sizeOf3
 v3:=Tryz.zeroValue3
 t4:=Tryz.underlying4
 a4:=Tryz.isAgg4
 z4:=Tryz.sizeOf4
 v4:=Tryz.zeroValue4
 t5:=Tryz.underlying5
 a5:=Tryz.isAgg5
 z5:=Tryz.sizeOf5
 v5:=Tryz.zeroValue5
 t9:=Tryz.underlying9
 a9:=Tryz.isAgg9
 z9:=Tryz.sizeOf9
 v9:=Tryz.zeroValue9
 t28:=Tryz.underlying23
 a28:=Tryz.isAgg23
 z28:=Tryz.sizeOf23
 v28:=Tryz.zeroValue23
 t46:=Tryz.underlying100
 a46:=Tryz.isAgg100
 z46:=Tryz.sizeOf100
 v46:=Tryz.zeroValue100
 t51:=Tryz.underlying58
 a51:=Tryz.isAgg58
 z51:=Tryz.sizeOf58
 v51:=Tryz.zeroValue58
 t53:=Tryz.underlying132
 a53:=Tryz.isAgg132
 z53:=Tryz.sizeOf132
 v53:=Tryz.zeroValue132
 t131:=Tryz.underlying128
 a131:=Tryz.isAgg128
 z131:=Tryz.sizeOf128
 v131:=Tryz.zeroValue128
 t182:=Tryz.underlying122
 a182:=Tryz.isAgg122
 z182:=Tryz.sizeOf122
 v182:=Tryz.zeroValue122
 t183:=Tryz.underlying123
 a183:=Tryz.isAgg123
 z183:=Tryz.sizeOf123
 v183:=Tryz.zeroValue123
 t218:=Tryz.underlying155
 a218:=Tryz.isAgg155
 z218:=Tryz.sizeOf155
 v218:=Tryz.zeroValue155
 t222:=Tryz.underlying159
 a222:=Tryz.isAgg159
 z222:=Tryz.sizeOf159
 v222:=Tryz.zeroValue159
 t228:=Tryz.underlying188
 a228:=Tryz.isAgg188
 z228:=Tryz.sizeOf188
 v228:=Tryz.zeroValue188
 t229:=Tryz.underlying183
 a229:=Tryz.isAgg183
 z229:=Tryz.sizeOf183
 v229:=Tryz.zeroValue183 }
open Go.Sort Go.RowKit in
theorem Tryz.slices_Sort_int (blk off cap:Nat) (zs:List Int) (w:World) (hH:Holds (nB .i64) w blk off zs.toArray) (hblk:blk < w.heap.size) (hsz:zs.length < 4611686018427387904) :
  Calls Tryz.prog 20 #[.slice (some ⟨blk,off,none⟩) zs.length cap] w fun e w' =>
   e=.returned (.tuple #[])/\∃ n os,w'=grow (putRow (nB .i64) (Sort.ahead w n) blk off (zs.mergeSort fun x y=>decide (x <= y)).toArray) os:=Any.slices_Sort_int Tryz.lays189 blk off cap zs w hH hblk hsz
def Tryz.lays212_ren:Go.Shelf.Ren:=⟨fun | 212=>75 | 263=>96 | 264=>97 | n=>n,fun | 46=>100 | 51=>58 | 146=>184 | 53=>132 | 148=>186 | n=>n,fun | n=>n⟩
theorem Tryz.lays212:Go.Proofs.Lays.n212 Tryz.prog Tryz.lays212_ren:={
 mixed:=by kernel_rfl
 f212:=Tryz.func75.trans (congrArg some (by kernel_rfl))
 f263:=Tryz.func96.trans (congrArg some (by kernel_rfl))
 f264:=Tryz.func97.trans (congrArg some (by kernel_rfl))
 t46:=Tryz.underlying100
 a46:=Tryz.isAgg100
 z46:=Tryz.sizeOf100
 v46:=Tryz.zeroValue100
 t51:=Tryz.underlying58
 a51:=Tryz.isAgg58
 z51:=Tryz.sizeOf58
 v51:=Tryz.zeroValue58
 t53:=Tryz.underlying132
 a53:=Tryz.isAgg132
 z53:=Tryz.sizeOf132
 v53:=Tryz.zeroValue132
 t146:=Tryz.underlying184
 a146:=Tryz.isAgg184
 z146:=Tryz.sizeOf184
 v146:=Tryz.zeroValue184
 t148:=Tryz.underlying186
 a148:=Tryz.isAgg186
 z148:=Tryz.sizeOf186
 v148:=Tryz.zeroValue186 }
open Go.RowKit Go.Lib in
theorem Tryz.bits_Mul (x y:Nat) (hx:x < 18446744073709551616) (hy:y < 18446744073709551616) (w:World) :
  Calls Tryz.prog 75 #[.int .u64 x,.int .u64 y] w fun e w'=>e=.returned (.tuple #[.int .u64 ((x * y / 18446744073709551616:Nat):Int),.int .u64 ((x * y % 18446744073709551616:Nat):Int)])/\w'=w:=Any.bits_Mul Tryz.lays212 x y hx hy w
open Go.RowKit Go.Sort in
theorem Tryz.slices_Sort_int_none (p:Option Addr) (cap:Nat) (w:World) :
  Calls Tryz.prog 20 #[.slice p 0 cap] w fun e w'=>e=.returned (.tuple #[])/\w'=w:=Any.slices_Sort_int_none Tryz.lays189 p cap w
end Go.Proofs
