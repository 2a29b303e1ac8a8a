import Derived.Test.YtnbcoenjobdplaaR0
import Derived.Laws.IdiomCopy
import Derived.Lib.SliceRun
import Derived.Deep.RegionLaw
import Derived.Shelf.RegionOpenPlain
import Derived.WalkKit
set_option linter.all false
open List renaming flatMap->hD,replicate->hM,take_append_of_le_length->nB,eq_of_mem_replicate->nD,flatMap_append->nG
open Array renaming replicate->nA
open Int renaming eq_ofNat_of_zero_le->nE
namespace Go.KL
open Go.RowKit
variable {P:Program}
theorem wHe (v:Value) (k n:Nat) (hk:0 < k):(Builtin.zeroCells (nA k v) n)=(hM (n * k) v).toArray:=by
 apply Array.ext'
 simp only [Builtin.zeroCells]
 apply List.ext_getElem
 ·simp
 ·intro i h1 h2
  simp at h1 ⊢
  have hm:i % k < (nA k v).size:=by simpa using Nat.mod_lt i hk
  rw [getElem!_pos (nA k v) (i % k) hm]
  simp
theorem isSome_setCells' (b:Nat) (vs:List Value) (o:Nat) (w:World) (h:∀ j,j < vs.length->(w.cell? ⟨b,o + j,none⟩).isSome=true) (k:Nat) (hk:(w.cell? ⟨b,k,none⟩).isSome=true):((w.setCells b o vs).cell? ⟨b,k,none⟩).isSome=true:=by
 by_cases hin:o <= k/\k < o + vs.length
 ·have:=World.cell?_setCells_in b vs o w h (k - o) (by omega)
  rw [show o + (k - o)=k by omega] at this
  rw [this];rfl
 ·rw [World.cell?_setCells_out b vs o w ⟨b,k,none⟩ (fun _ _=>by show k < o \/ o + vs.length <= k;omega)]
  exact hk
theorem run_clear_sliceK (w:World) (t e ty:TypeId) (z z0:Value) (k:Nat) (ht:P.underlying t=some (.slice e)) (hv:∀ w,(zeroValue e).run P w=.ok z w) (hz:z.cells=nA k z0) (hk:0 < k) (h1:z0.oneCell'=true) (b o n c:Nat) (hn:0 < n)
  (hc:∀ j,j < n * k->(w.cell? ⟨b,o + j,none⟩).isSome=true) (hf:∀ j,j < n * k->w.frozen? ⟨b,o + j,none⟩=false) :
  (Builtin.clear_ #[t] ty #[.slice (some ⟨b,o,none⟩) n c]).run P w=.ok (.tuple #[]) (w.setCells b o (hM (n * k) z0)):=by
 have hzc:(Builtin.zeroCells z.cells n).toList=hM (n * k) z0:=by
  rw [hz,wHe _ _ _ hk]
 have hst:=run_storeCells_cells (P:=P) b o (hM (n * k) z0) 0 w (by simpa using hc) (by simpa using hf) (by intro v hv';rw [nD hv'];exact h1)
 simp [Builtin.clear_,run_underlying ht,hv,hzc,hst,show n ≠ 0 by omega]
section
variable {B:Base} {U:PHeap} {L:List Res} {w:World}
theorem wHE {v:Value} (h:one v=true):v.oneCell'=true:=by cases v <;> simp_all [one,Value.oneCell']
theorem St.setCells (P:Program) (h:St B U L w) {k b c T sz o:Nat} {cs cs' vs:List Value} (hk:L[k]?=some (.row (some ⟨b,0,none⟩) c T sz cs)) (hl:o + vs.length <= c * sz) (h1:∀ v ∈ vs,one v=true)
  (hcs:∀ cur:List Value,cur.length=c * sz->cur.take cs.length=cs->(wDh cur o vs).take cs'.length=cs') (hl':cs'.length <= c * sz) :
  St B U (L.set k (.row (some ⟨b,0,none⟩) c T sz cs')) (w.setCells b o vs):=by
 obtain ⟨cur,g1,g2,g3,g4,g5⟩:=RowAt.cells (h.at_ _ (List.mem_of_getElem? hk))
 have hB:Blk w b T cur.toList:=by unfold Blk;rw [g1]
 obtain ⟨w',h2,h3,h4,h5⟩:=wCx (P:=P) (T:=T) o vs 0 cur.toList w hB (by simp;omega) h1
 have hst:=run_storeCells_cells (P:=P) b o vs 0 w (fun j hj=>by
   rw [show o + 0 + j=o + j from rfl,hB.cell (List.getElem?_eq_getElem (show o + j < cur.toList.length by simp;omega))];rfl) (fun j hj=>hB.frozen) (fun v hv=>wHE (h1 v hv))
 rw [hst] at h2
 cases h2
 rw [Nat.add_zero] at h3
 refine h.set hk (h4.weak fun x _ e=>by rw [e];rfl) (.inr ⟨b,(wDh cur.toList o vs).toArray,rfl,h3,hl',g3,by simp [wDL,g4],hcs _ (by simp [g4]) g5⟩) fun b hb=>.inl hb
theorem St.setCellsExt (P:Program) (h:St B U L w) {k b c T sz o:Nat} {cs vs:List Value} (hk:L[k]?=some (.row (some ⟨b,0,none⟩) c T sz cs)) (ho:o=cs.length) (hl:o + vs.length <= c * sz) (h1:∀ v ∈ vs,one v=true) :
  St B U (L.set k (.row (some ⟨b,0,none⟩) c T sz (cs ++ vs))) (w.setCells b o vs) :=
 h.setCells P hk hl h1 (fun cur hc ht=>by
  rw [wIJ _ _ _ (by omega),ho,ht]
  have:(cs ++ vs).length <= (cs ++ vs).length:=Nat.le_refl _
  rw [nB this,List.take_length]) (by simp;omega)
theorem St.setCellsPast (P:Program) (h:St B U L w) {k b c T sz o:Nat} {cs vs:List Value} (hk:L[k]?=some (.row (some ⟨b,0,none⟩) c T sz cs)) (ho:cs.length <= o) (hl:o + vs.length <= c * sz) (h1:∀ v ∈ vs,one v=true) :
  St B U (L.set k (.row (some ⟨b,0,none⟩) c T sz cs)) (w.setCells b o vs) :=
 h.setCells P hk hl h1 (fun cur hc ht=>by
  rw [wIJ _ _ _ (by omega),List.append_assoc,nB (by simp;omega),List.take_take,Nat.min_eq_left ho,ht]) (by omega)
def wKk {α:Type} (p:List α) (i j:Int):Option (List α):=if 0 <= i/\i < j/\j <= p.length then some (p.take i.toNat ++ p.drop j.toNat) else none
theorem wFW {α:Type} {enc:α->List Value} {P:Program} {F T sz c:Nat} {A:Option Addr} {z:Value} {p r:List α} {i j:Int} (hf:∀ x,(enc x).length=sz) (h0:0 < sz) (h1:∀ x,(enc x).all one=true) (hz:one z=true)
  (H:∀ (b c n i j:Nat) (cs:List Value) (w:World),cs.length=n * sz->(∀ v ∈ cs,v.oneCell'=true)->(∀ k v,cs[k]?=some v->w.cell? ⟨b,k,none⟩=some v)->(∀ k,k < n * sz->w.frozen? ⟨b,k,none⟩=false)->n <= c->c <= 9223372036854775807->i < j->j <= n ->
   Calls P F #[.slice (some ⟨b,0,none⟩) n c,.int .i64 i,.int .i64 j] w fun e w'=>e=.returned (.slice (some ⟨b,0,none⟩) (n - (j - i)) c) /\
    w'=(w.drew.setCells b (i * sz) (cs.drop (j * sz))).setCells b ((n - (j - i)) * sz) (hM ((j - i) * sz) z))
  (hS:St ⟨w,[.row A c T sz (hD enc p)],U⟩ U [.row A c T sz (hD enc p)] w) (hm:wKk p i j=some r) :
  Gv P F [.slice A p.length c,.int .i64 i,.int .i64 j] w (wBm w [.row A c T sz (hD enc p)] U fun U_ L_ v=>∃ (A0:Option Addr) (c0:Nat),v=.slice A0 r.length c0/\L_=[.row A0 c0 T sz (hD enc r)]):=by
 unfold wKk at hm
 split at hm
 ·rename_i h
  obtain ⟨hi0,hij,hjn⟩:=h
  cases hm
  obtain ⟨i,rfl⟩:=nE hi0
  obtain ⟨j,rfl⟩:=nE (Int.le_trans hi0 (Int.le_of_lt hij))
  simp only [Int.toNat_natCast]
  have hij:i < j:=by omega
  have hjn:j <= p.length:=by omega
  have hl:(hD enc p).length=p.length * sz:=wAD hf p
  have hpos:0 < (hD enc p).length:=by rw [hl];exact Nat.mul_pos (by omega) h0
  obtain ⟨b,rfl⟩:=hS.rowSome (j:=0) rfl hpos
  obtain ⟨cur,g1,g2,g3,g4,g5⟩:=RowAt.cells (hS.at_ _ (List.mem_cons_self ..))
  have hnc:p.length <= c:=hS.rowCap (j:=0) rfl h0 hl
  have hB:Blk w b T cur.toList:=by unfold Blk;rw [g1]
  have ha:∀ v ∈ hD enc p,one v=true:=by
   intro v hv
   obtain ⟨x,_,hx⟩:=List.mem_flatMap.1 hv
   exact List.all_eq_true.1 (h1 x) v hx
  refine Calls.mono' (H b c p.length i j (hD enc p) w hl (fun v hv=>wHE (ha v hv)) (fun k v hk=>hS.rowCell (j:=0) rfl hk) (fun k _=>hB.frozen) hnc (by unfold maxLen at g3;omega) hij hjn) ?_
  rintro e w' ⟨rfl,rfl⟩
  have e1:(p.take i ++ p.drop j).length=p.length - (j - i):=by simp;omega
  have hpi:p.take i ++ p.drop i=p:=List.take_append_drop i p
  have s1:=hS.drew.cutRow (k:=0) (a:=hD enc (p.take i)) (d:=hD enc (p.drop i)) (by rw [<- nG,hpi];rfl)
  have li:(hD enc (p.take i)).length=i * sz:=by rw [wAD hf,List.length_take];rw [Nat.min_eq_left (by omega)]
  have ld:(hD enc (p.drop j)).length=(p.length - j) * sz:=by rw [wAD hf,List.length_drop]
  have hcm:p.length * sz <= c * sz:=Nat.mul_le_mul_right _ hnc
  have m1:i * sz + (p.length - j) * sz=(p.length - (j - i)) * sz:=by rw [<- Nat.add_mul];congr 1;omega
  have m2:(p.length - (j - i)) * sz + (j - i) * sz=p.length * sz:=by rw [<- Nat.add_mul];congr 1;omega
  have s2:=s1.setCellsExt P (k:=0) (o:=i * sz) (vs:=(hD enc p).drop (j * sz)) rfl li.symm (by rw [wCb hf,ld];omega) (fun v hv=>ha v (List.mem_of_mem_drop hv))
  rw [wCb hf] at s2
  rw [<- nG] at s2
  have s3:=s2.setCellsPast P (k:=0) (o:=(p.length - (j - i)) * sz) (vs:=hM ((j - i) * sz) z) rfl (by rw [wAD hf,e1];exact Nat.le_refl _) (by rw [List.length_replicate];omega) (fun v hv=>by rw [nD hv];exact hz)
  refine ⟨_,rfl,U,[.row (some ⟨b,0,none⟩) c T sz (hD enc (p.take i ++ p.drop j))],?_,some ⟨b,0,none⟩,c,by rw [e1],rfl⟩
  rw [wCb hf]
  simpa using s3
 ·cases hm
end
end Go.KL
