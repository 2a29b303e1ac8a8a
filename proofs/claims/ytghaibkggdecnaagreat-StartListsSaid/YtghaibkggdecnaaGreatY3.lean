import Derived.Test.YtghaibkggdecnaaGreatY0
import Derived.Laws.IdiomCopy
import Derived.Lib.SliceRun
import Derived.Deep.RegionLaw
import Derived.Shelf.RegionOpenPlain
import Derived.WalkKit
set_option linter.all false
open List renaming flatMap->nA,flatMap_append->nB,take_append_of_le_length->nE,replicate->nG,length_append->nH,length_take->nK,append_toArray->nM,take_take->nN,eq_of_mem_replicate->nP,getElem?_eq_getElem->nQ,take_length->nR,length_replicate->nS,mem_of_getElem?->nT,mem_cons_self->nV
open Nat renaming min_eq_left->nD,add_mul->nJ,le_refl->nO,mul_le_mul_right->nU,mul_pos->nW
open Array renaming replicate->nI
open Int renaming eq_ofNat_of_zero_le->nL
namespace Go.KL
open Go.RowKit
variable {P:Program}
theorem run_copy_cellsK (w:World) (dT sT ty elem:TypeId) (sz b o dLen dCap n:Nat) (a:Addr) (sLen sCap:Nat) (cs:List Value)
  (hu:P.underlying dT=some (.slice elem)) (hs:∀ w,(sizeOf elem).run P w=.ok sz w) (hn:Nat.min sLen dLen=n) (hl:cs.length=n * sz)
  (hsrc:∀ j v,cs[j]?=some v->w.cell? (a.add j)=some v) (hc:∀ j,j < cs.length->(w.cell? ⟨b,o + j,none⟩).isSome=true) (hf:∀ j,j < cs.length->w.frozen? ⟨b,o + j,none⟩=false) (h1:∀ v ∈ cs,v.oneCell'=true) :
  (Builtin.copy_ #[dT,sT] ty #[.slice (some ⟨b,o,none⟩) dLen dCap,.slice (some a) sLen sCap]).run P w=.ok (goInt n) (w.setCells b o cs):=by
 have hst:=run_storeCells_cells (P:=P) b o cs 0 w (by simpa using hc) (by simpa using hf) h1
 have hfc:=run_firstCells_some (P:=P) w sz n a sLen sCap cs hl hsrc
 simp [Builtin.copy_,run_underlying hu,Builtin.lenOf,hs,hn,hfc,hst]
theorem zeroCellsK (v:Value) (k n:Nat) (hk:0 < k):(Builtin.zeroCells (nI k v) n)=(nG (n * k) v).toArray:=by
 apply Array.ext'
 simp only [Builtin.zeroCells]
 apply List.ext_getElem
 ·simp
 ·intro i h1 h2
  simp at h1 ⊢
  have hm:i % k < (nI k v).size:=by simpa using Nat.mod_lt i hk
  rw [getElem!_pos (nI k v) (i % k) hm]
  simp
theorem isSome_setCells' (b:Nat) (vs:List Value) (o:Nat) (w:World) (h:∀ j,j < vs.length->(w.cell? ⟨b,o + j,none⟩).isSome=true) (k:Nat) (hk:(w.cell? ⟨b,k,none⟩).isSome=true):((w.setCells b o vs).cell? ⟨b,k,none⟩).isSome=true:=by
 by_cases hin:o <= k/\k < o + vs.length
 ·have:=World.cell?_setCells_in b vs o w h (k - o) (by omega)
  rw [show o + (k - o)=k by omega] at this
  rw [this];rfl
 ·rw [World.cell?_setCells_out b vs o w ⟨b,k,none⟩ (fun _ _=>by show k < o \/ o + vs.length <= k;omega)]
  exact hk
theorem run_clear_sliceK (w:World) (t e ty:TypeId) (z z0:Value) (k:Nat) (ht:P.underlying t=some (.slice e)) (hv:∀ w,(zeroValue e).run P w=.ok z w) (hz:z.cells=nI k z0) (hk:0 < k) (h1:z0.oneCell'=true) (b o n c:Nat) (hn:0 < n)
  (hc:∀ j,j < n * k->(w.cell? ⟨b,o + j,none⟩).isSome=true) (hf:∀ j,j < n * k->w.frozen? ⟨b,o + j,none⟩=false) :
  (Builtin.clear_ #[t] ty #[.slice (some ⟨b,o,none⟩) n c]).run P w=.ok (.tuple #[]) (w.setCells b o (nG (n * k) z0)):=by
 have hzc:(Builtin.zeroCells z.cells n).toList=nG (n * k) z0:=by
  rw [hz,zeroCellsK _ _ _ hk]
 have hst:=run_storeCells_cells (P:=P) b o (nG (n * k) z0) 0 w (by simpa using hc) (by simpa using hf) (by intro v hv';rw [nP hv'];exact h1)
 simp [Builtin.clear_,run_underlying ht,hv,hzc,hst,show n ≠ 0 by omega]
section
variable {B:Base} {U:PHeap} {L:List Res} {w:World}
theorem wCz {v:Value} (h:one v=true):v.oneCell'=true:=by cases v <;> simp_all [one,Value.oneCell']
theorem St.setCells (P:Program) (h:St B U L w) {k b c T sz o:Nat} {cs cs' vs:List Value} (hk:L[k]?=some (.row (some ⟨b,0,none⟩) c T sz cs)) (hl:o + vs.length <= c * sz) (h1:∀ v ∈ vs,one v=true)
  (hcs:∀ cur:List Value,cur.length=c * sz->cur.take cs.length=cs->(wDg cur o vs).take cs'.length=cs') (hl':cs'.length <= c * sz) :
  St B U (L.set k (.row (some ⟨b,0,none⟩) c T sz cs')) (w.setCells b o vs):=by
 obtain ⟨cur,g1,g2,g3,g4,g5⟩:=RowAt.cells (h.at_ _ (nT hk))
 have hB:Blk w b T cur.toList:=by unfold Blk;rw [g1]
 obtain ⟨w',h2,h3,h4,h5⟩:=wCD (P:=P) (T:=T) o vs 0 cur.toList w hB (by simp;omega) h1
 have hst:=run_storeCells_cells (P:=P) b o vs 0 w (fun j hj=>by
   rw [show o + 0 + j=o + j from rfl,hB.cell (nQ (show o + j < cur.toList.length by simp;omega))];rfl) (fun j hj=>hB.frozen) (fun v hv=>wCz (h1 v hv))
 rw [hst] at h2
 cases h2
 rw [Nat.add_zero] at h3
 refine h.set hk (h4.weak fun x _ e=>by rw [e];rfl) (.inr ⟨b,(wDg cur.toList o vs).toArray,rfl,h3,hl',g3,by simp [wBv,g4],hcs _ (by simp [g4]) g5⟩) fun b hb=>.inl hb
theorem St.setCellsExt (P:Program) (h:St B U L w) {k b c T sz o:Nat} {cs vs:List Value} (hk:L[k]?=some (.row (some ⟨b,0,none⟩) c T sz cs)) (ho:o=cs.length) (hl:o + vs.length <= c * sz) (h1:∀ v ∈ vs,one v=true) :
  St B U (L.set k (.row (some ⟨b,0,none⟩) c T sz (cs ++ vs))) (w.setCells b o vs) :=
 h.setCells P hk hl h1 (fun cur hc ht=>by
  rw [setN_eq _ _ _ (by omega),ho,ht]
  have:(cs ++ vs).length <= (cs ++ vs).length:=nO _
  rw [nE this,nR]) (by simp;omega)
theorem St.setCellsPast (P:Program) (h:St B U L w) {k b c T sz o:Nat} {cs vs:List Value} (hk:L[k]?=some (.row (some ⟨b,0,none⟩) c T sz cs)) (ho:cs.length <= o) (hl:o + vs.length <= c * sz) (h1:∀ v ∈ vs,one v=true) :
  St B U (L.set k (.row (some ⟨b,0,none⟩) c T sz cs)) (w.setCells b o vs) :=
 h.setCells P hk hl h1 (fun cur hc ht=>by
  rw [setN_eq _ _ _ (by omega),List.append_assoc,nE (by simp;omega),nN,nD ho,ht]) (by omega)
def delO {α:Type} (p:List α) (i j:Int):Option (List α):=if 0 <= i/\i < j/\j <= p.length then some (p.take i.toNat ++ p.drop j.toNat) else none
theorem wKN {α:Type} {enc:α->List Value} {P:Program} {F T sz c:Nat} {A:Option Addr} {z:Value} {p r:List α} {i j:Int} (hf:∀ x,(enc x).length=sz) (h0:0 < sz) (h1:∀ x,(enc x).all one=true) (hz:one z=true)
  (H:∀ (b c n i j:Nat) (cs:List Value) (w:World),cs.length=n * sz->(∀ v ∈ cs,v.oneCell'=true)->(∀ k v,cs[k]?=some v->w.cell? ⟨b,k,none⟩=some v)->(∀ k,k < n * sz->w.frozen? ⟨b,k,none⟩=false)->n <= c->c <= 9223372036854775807->i < j->j <= n ->
   Calls P F #[.slice (some ⟨b,0,none⟩) n c,.int .i64 i,.int .i64 j] w fun e w'=>e=.returned (.slice (some ⟨b,0,none⟩) (n - (j - i)) c) /\
    w'=(w.drew.setCells b (i * sz) (cs.drop (j * sz))).setCells b ((n - (j - i)) * sz) (nG ((j - i) * sz) z))
  (hS:St ⟨w,[.row A c T sz (nA enc p)],U⟩ U [.row A c T sz (nA enc p)] w) (hm:delO p i j=some r) :
  Gv P F [.slice A p.length c,.int .i64 i,.int .i64 j] w (wCQ w [.row A c T sz (nA enc p)] U fun U_ L_ v=>∃ (A0:Option Addr) (c0:Nat),v=.slice A0 r.length c0/\L_=[.row A0 c0 T sz (nA enc r)]):=by
 unfold delO at hm
 split at hm
 ·rename_i h
  obtain ⟨hi0,hij,hjn⟩:=h
  cases hm
  obtain ⟨i,rfl⟩:=nL hi0
  obtain ⟨j,rfl⟩:=nL (Int.le_trans hi0 (Int.le_of_lt hij))
  simp only [Int.toNat_natCast]
  have hij:i < j:=by omega
  have hjn:j <= p.length:=by omega
  have hl:(nA enc p).length=p.length * sz:=wAF hf p
  have hpos:0 < (nA enc p).length:=by rw [hl];exact nW (by omega) h0
  obtain ⟨b,rfl⟩:=hS.rowSome (j:=0) rfl hpos
  obtain ⟨cur,g1,g2,g3,g4,g5⟩:=RowAt.cells (hS.at_ _ (nV ..))
  have hnc:p.length <= c:=hS.rowCap (j:=0) rfl h0 hl
  have hB:Blk w b T cur.toList:=by unfold Blk;rw [g1]
  have ha:∀ v ∈ nA enc p,one v=true:=by
   intro v hv
   obtain ⟨x,_,hx⟩:=List.mem_flatMap.1 hv
   exact List.all_eq_true.1 (h1 x) v hx
  refine Calls.mono' (H b c p.length i j (nA enc p) w hl (fun v hv=>wCz (ha v hv)) (fun k v hk=>hS.rowCell (j:=0) rfl hk) (fun k _=>hB.frozen) hnc (by unfold maxLen at g3;omega) hij hjn) ?_
  rintro e w' ⟨rfl,rfl⟩
  have e1:(p.take i ++ p.drop j).length=p.length - (j - i):=by simp;omega
  have hpi:p.take i ++ p.drop i=p:=List.take_append_drop i p
  have s1:=hS.drew.cutRow (k:=0) (a:=nA enc (p.take i)) (d:=nA enc (p.drop i)) (by rw [<- nB,hpi];rfl)
  have li:(nA enc (p.take i)).length=i * sz:=by rw [wAF hf,nK];rw [nD (by omega)]
  have ld:(nA enc (p.drop j)).length=(p.length - j) * sz:=by rw [wAF hf,List.length_drop]
  have hcm:p.length * sz <= c * sz:=nU _ hnc
  have m1:i * sz + (p.length - j) * sz=(p.length - (j - i)) * sz:=by rw [<- nJ];congr 1;omega
  have m2:(p.length - (j - i)) * sz + (j - i) * sz=p.length * sz:=by rw [<- nJ];congr 1;omega
  have s2:=s1.setCellsExt P (k:=0) (o:=i * sz) (vs:=(nA enc p).drop (j * sz)) rfl li.symm (by rw [wCH hf,ld];omega) (fun v hv=>ha v (List.mem_of_mem_drop hv))
  rw [wCH hf] at s2
  rw [<- nB] at s2
  have s3:=s2.setCellsPast P (k:=0) (o:=(p.length - (j - i)) * sz) (vs:=nG ((j - i) * sz) z) rfl (by rw [wAF hf,e1];exact nO _) (by rw [nS];omega) (fun v hv=>by rw [nP hv];exact hz)
  refine ⟨_,rfl,U,[.row (some ⟨b,0,none⟩) c T sz (nA enc (p.take i ++ p.drop j))],?_,some ⟨b,0,none⟩,c,by rw [e1],rfl⟩
  rw [wCH hf]
  simpa using s3
 ·cases hm
def insO {α:Type} (p:List α) (i:Int) (q:List α):Option (List α):=if q.length=1/\0 <= i/\i <= p.length/\p.length < 1000000 then some (p.take i.toNat ++ q ++ p.drop i.toNat) else none
theorem wKO {α:Type} {enc:α->List Value} {P:Program} {F T sz by_ c c2 T2:Nat} {A A2:Option Addr} {z:Value} {p q r:List α} {i:Int} (hf:∀ x,(enc x).length=sz) (h0:0 < sz) (h1:∀ x,(enc x).all one=true) (hz:one z=true) (hby:by_ <= 1000000)
  (HS:∀ (b n c i vb vc:Nat) (cs vs:List Value) (w:World),cs.length=n * sz->vs.length=1 * sz->(∀ v ∈ cs,v.oneCell'=true)->(∀ v ∈ vs,v.oneCell'=true) ->
   (∀ k v,cs[k]?=some v->w.cell? ⟨b,k,none⟩=some v)->(∀ k,k < c * sz->(w.cell? ⟨b,k,none⟩).isSome=true)->(∀ k,w.frozen? ⟨b,k,none⟩=false)->(∀ k v,vs[k]?=some v->w.cell? ⟨vb,k,none⟩=some v)->(∀ k,w.frozen? ⟨vb,k,none⟩=false)->vb ≠ b ->
   ∀ (tA tB:TypeId) (kA kB:Nat),w.shape? vb=some (tA,kA)->w.shape? b=some (tB,kB)->kB ≠ 0->i < n->n + 1 <= c->c <= 9223372036854775807 ->
   Calls P F #[.slice (some ⟨b,0,none⟩) n c,.int .i64 i,.slice (some ⟨vb,0,none⟩) 1 vc] w fun e w'=>e=.returned (.slice (some ⟨b,0,none⟩) (n + 1) c) /\
    w'=(w.drew.setCells b ((i + 1) * sz) (cs.drop (i * sz))).setCells b (i * sz) vs)
  (HR:∀ (b n c vb vc:Nat) (vs:List Value) (w:World),vs.length=1 * sz->(∀ v ∈ vs,v.oneCell'=true) ->
   (∀ k,k < c * sz->(w.cell? ⟨b,k,none⟩).isSome=true)->(∀ k,w.frozen? ⟨b,k,none⟩=false)->(∀ k v,vs[k]?=some v->w.cell? ⟨vb,k,none⟩=some v)->n + 1 <= c->c <= 9223372036854775807 ->
   Calls P F #[.slice (some ⟨b,0,none⟩) n c,.int .i64 n,.slice (some ⟨vb,0,none⟩) 1 vc] w fun e w'=>e=.returned (.slice (some ⟨b,0,none⟩) (n + 1) c)/\w'=w.setCells b (n * sz) vs)
  (HG:∀ (base:Option Addr) (n c vb vc:Nat) (cs vs:List Value) (w:World),cs.length=n * sz->vs.length=1 * sz->(∀ v ∈ vs,v.oneCell'=true) ->
   (base=none->n=0)->(∀ a,base=some a->∃ b,a=⟨b,0,none⟩/\∀ k v,cs[k]?=some v->w.cell? ⟨b,k,none⟩=some v)->(∀ k v,vs[k]?=some v->w.cell? ⟨vb,k,none⟩=some v)->n <= c->c < n + 1->(n + 1) * by_ <= 140737488355328 ->
   Calls P F #[.slice base n c,.int .i64 n,.slice (some ⟨vb,0,none⟩) 1 vc] w fun e w'=>e=.returned (.slice (some ⟨w.heap.size,0,none⟩) (n + 1) (grownCap w (n + 1) c T)) /\
    w'=w.drew.alloc (.cells ((cs ++ vs).toArray ++ Builtin.zeroCells (nI sz z) (grownCap w (n + 1) c T - (n + 1))) T))
  (HM:∀ (b n c i vb vc:Nat) (cs vs:List Value) (w:World),cs.length=n * sz->vs.length=1 * sz->(∀ v ∈ cs,v.oneCell'=true)->(∀ v ∈ vs,v.oneCell'=true) ->
   (∀ k v,cs[k]?=some v->w.cell? ⟨b,k,none⟩=some v)->(∀ k v,vs[k]?=some v->w.cell? ⟨vb,k,none⟩=some v)->i < n->n <= c->c < n + 1->(n + 1) * by_ <= 140737488355328 ->
   Calls P F #[.slice (some ⟨b,0,none⟩) n c,.int .i64 i,.slice (some ⟨vb,0,none⟩) 1 vc] w fun e w'=>e=.returned (.slice (some ⟨w.heap.size,0,none⟩) (n + 1) (grownCap w (n + 1) c T)) /\
    w'=(((w.alloc (.cells ((cs.take (i * sz)).toArray ++ Builtin.zeroCells (nI sz z) (n + 1 - i) ++ Builtin.zeroCells (nI sz z) (grownCap w (n + 1) c T - (n + 1))) T)).drew.setCells w.heap.size (i * sz) vs).drew).setCells w.heap.size ((i + 1) * sz) (cs.drop (i * sz)))
  (hS:St ⟨w,[.row A c T sz (nA enc p),.row A2 c2 T2 sz (nA enc q)],U⟩ U [.row A c T sz (nA enc p),.row A2 c2 T2 sz (nA enc q)] w) (hm:insO p i q=some r) :
  Gv P F [.slice A p.length c,.int .i64 i,.slice A2 q.length c2] w (wCQ w [.row A c T sz (nA enc p),.row A2 c2 T2 sz (nA enc q)] U fun U_ L_ v=>∃ (A0:Option Addr) (c0:Nat),v=.slice A0 r.length c0/\L_=[.row A0 c0 T sz (nA enc r),.row A2 c2 T2 sz (nA enc q)]):=by
 unfold insO at hm
 split at hm
 ·rename_i h
  obtain ⟨hq,hi0,hin,hsm⟩:=h
  cases hm
  obtain ⟨i,rfl⟩:=nL hi0
  simp only [Int.toNat_natCast]
  have hin:i <= p.length:=by omega
  rw [hq]
  have hl:(nA enc p).length=p.length * sz:=wAF hf p
  have hlq:(nA enc q).length=1 * sz:=by rw [wAF hf,hq]
  have hall:∀ (l:List α),∀ v ∈ nA enc l,one v=true:=by
   intro l v hv
   obtain ⟨x,_,hx⟩:=List.mem_flatMap.1 hv
   exact List.all_eq_true.1 (h1 x) v hx
  obtain ⟨vb,rfl⟩:=hS.rowSome (j:=1) rfl (by rw [hlq];omega)
  have hbig:(p.length + 1) * by_ <= 140737488355328:=Nat.le_trans (Nat.mul_le_mul (show p.length + 1 <= 1000000 by omega) hby) (by omega)
  obtain ⟨cur2,k1,k2,k3,k4,k5⟩:=RowAt.cells (hS.at_ _ (nT (show _=some (Res.row _ _ _ _ (nA enc q)) from rfl:([Res.row A c T sz (nA enc p),.row (some ⟨vb,0,none⟩) c2 T2 sz (nA enc q)])[1]?=_)))
  have hB2:Blk w vb T2 cur2.toList:=by unfold Blk;rw [k1]
  have hcm:∀ {a b:Nat},a <= b->a * sz <= b * sz:=fun h=>nU _ h
  have len3:(p.take i ++ q ++ p.drop i).length=p.length + 1:=by simp [hq];omega
  have fl3:nA enc (p.take i ++ q ++ p.drop i)=nA enc (p.take i) ++ nA enc q ++ nA enc (p.drop i):=by rw [nB,nB]
  have li:(nA enc (p.take i)).length=i * sz:=by rw [wAF hf,nK,nD hin]
  have ld:(nA enc (p.drop i)).length=(p.length - i) * sz:=by rw [wAF hf,List.length_drop]
  have m1:i * sz + 1 * sz=(i + 1) * sz:=by rw [<- nJ]
  have m2:(i + 1) * sz + (p.length - i) * sz=(p.length + 1) * sz:=by rw [<- nJ];congr 1;omega
  have G1:=grownCap_ge w (p.length + 1) c T
  have G2:=grownCap_le_maxLen w (p.length + 1) c T (by unfold maxLen;omega)
  have endG:(∀ a,A=some a->∃ b,a=⟨b,0,none⟩)->(A=none->p.length=0)->p.length <= c->c < p.length + 1->i=p.length->Gv P F [.slice A p.length c,.int .i64 i,.slice (some ⟨vb,0,none⟩) 1 c2] w (wCQ w [.row A c T sz (nA enc p),.row (some ⟨vb,0,none⟩) c2 T2 sz (nA enc q)] U fun U_ L_ v=>∃ (A0:Option Addr) (c0:Nat),v=.slice A0 (p.take i ++ q ++ p.drop i).length c0/\L_=[.row A0 c0 T sz (nA enc (p.take i ++ q ++ p.drop i)),.row (some ⟨vb,0,none⟩) c2 T2 sz (nA enc q)]):=by
   intro hA hn hnc hr hi
   subst hi
   refine Calls.mono' (HG A p.length c vb c2 (nA enc p) (nA enc q) w hl hlq (fun v hv=>wCz (hall q v hv)) hn (fun a ha=>?_) (fun k v hk=>hS.rowCell (j:=1) rfl hk) hnc hr hbig) ?_
   ·obtain ⟨b,rfl⟩:=hA a ha
    subst ha
    exact ⟨b,rfl,fun k v hk=>hS.rowCell (j:=0) rfl hk⟩
   rintro e w' ⟨rfl,rfl⟩
   have e3:p.take p.length ++ q ++ p.drop p.length=p ++ q:=by simp
   rw [e3,zeroCellsK _ _ _ h0]
   generalize hG:grownCap w (p.length + 1) c T=G at G1 G2
   have s1:=hS.drew.new (k:=wAp _ (.cells ((nA enc p ++ nA enc q).toArray ++ (nG ((G - (p.length + 1)) * sz) z).toArray) T)) (r:=.row (some ⟨w.heap.size,0,none⟩) G T sz (nA enc (p ++ q))) (b:=w.heap.size)
    (.inr ⟨_,_,rfl,by
     rw [nM]
     exact wCc _ _ _,by rw [wAF hf];simp [hq];exact hcm G1,G2,by
     rw [List.size_toArray,nH,nH,nS,hl,hlq,<- nJ,<- nJ]
     congr 1
     omega,by
     rw [nB,nE (nO _),nR]⟩) rfl (nO _)
   exact ⟨_,rfl,U,_,s1.drop 1,some ⟨w.heap.size,0,none⟩,G,by simp [hq],rfl⟩
  rcases hS.at_ _ (nV ..) with ⟨rfl,rfl,hnil⟩ | ⟨b,cur,rfl,g1,g2,g3,g4,g5⟩
  ·have hp0:p.length=0:=by
    rw [hnil] at hl
    rcases Nat.eq_zero_or_pos p.length with h | h
    ·exact h
    ·have:=nW h h0;simp at hl;omega
   exact endG (fun a h=>by cases h) (fun _=>hp0) (by omega) (by omega) (by omega)
  ·have hnc:p.length <= c:=hS.rowCap (j:=0) rfl h0 hl
   have hB:Blk w b T cur.toList:=by unfold Blk;rw [g1]
   have hsome:∀ k,k < c * sz->(w.cell? ⟨b,k,none⟩).isSome=true:=fun k hk=>by
    rw [hB.cell (nQ (show k < cur.toList.length by simp;omega))];rfl
   have hne:vb ≠ b:=by
    intro h
    have:=hS.dj 1 0 _ _ b rfl rfl (by rw [<- h];rfl) rfl
    omega
   by_cases hend:i=p.length
   ·by_cases hr:p.length + 1 <= c
    ·subst hend
     refine Calls.mono' (HR b p.length c vb c2 (nA enc q) w hlq (fun v hv=>wCz (hall q v hv)) hsome (fun k=>hB.frozen) (fun k v hk=>hS.rowCell (j:=1) rfl hk) hr (by unfold maxLen at g3;omega)) ?_
     rintro e w' ⟨rfl,rfl⟩
     have e3:p.take p.length ++ q ++ p.drop p.length=p ++ q:=by simp
     rw [e3]
     have s1:=hS.setCellsExt P (k:=0) (o:=p.length * sz) (vs:=nA enc q) rfl hl.symm (by rw [hlq,<- nJ];exact hcm hr) (hall q)
     rw [<- nB] at s1
     exact ⟨_,rfl,U,_,s1,some ⟨b,0,none⟩,c,by simp [hq],rfl⟩
    ·exact endG (fun a h=>by cases h;exact ⟨b,rfl⟩) (fun h=>by cases h) hnc (by omega) hend
   ·have hlt:i < p.length:=by omega
    by_cases hr:p.length + 1 <= c
    ·refine Calls.mono' (HS b p.length c i vb c2 (nA enc p) (nA enc q) w hl hlq (fun v hv=>wCz (hall p v hv)) (fun v hv=>wCz (hall q v hv)) (fun k v hk=>hS.rowCell (j:=0) rfl hk) hsome (fun k=>hB.frozen) (fun k v hk=>hS.rowCell (j:=1) rfl hk) (fun k=>hB2.frozen) hne _ _ _ _ (by unfold World.shape?;rw [k1]) (by unfold World.shape?;rw [g1]) (by
      rw [g4]
      have:=nW (show 0 < c by omega) h0
      omega) hlt hr (by unfold maxLen at g3;omega)) ?_
     rintro e w' ⟨rfl,rfl⟩
     rw [wCH hf]
     have hcr:=hcm hr
     have s1:=hS.drew.setCells P (k:=0) (o:=(i + 1) * sz) (vs:=nA enc (p.drop i)) (cs':=nA enc (p.take (i + 1)) ++ nA enc (p.drop i)) rfl (by rw [ld];omega) (hall _) (fun cu hc ht=>by
      have lt1:(nA enc (p.take (i + 1))).length=(i + 1) * sz:=by rw [wAF hf,nK,nD (by omega)]
      rw [setN_eq _ _ _ (by rw [ld];omega)]
      have:cu.take ((i + 1) * sz)=nA enc (p.take (i + 1)):=by
       rw [<- wCy hf,<- ht,nN,nD (by rw [hl];exact hcm (by omega))]
      rw [this,nE (by simp),nR]) (by rw [nH,wAF hf,ld,nK,nD (by omega)];omega)
     have s2:=s1.setCells P (k:=0) (o:=i * sz) (vs:=nA enc q) (cs':=nA enc (p.take i ++ q ++ p.drop i)) rfl (by rw [hlq];omega) (hall _) (fun cu hc ht=>by
      have lt1:(nA enc (p.take (i + 1))).length=(i + 1) * sz:=by rw [wAF hf,nK,nD (by omega)]
      rw [fl3,setN_eq _ _ _ (by rw [hlq];omega),hlq]
      have a1:cu.take (i * sz)=nA enc (p.take i):=by
       have:=congrArg (List.take (i * sz)) ht
       rw [nN,nD (by rw [nH,lt1,ld];omega),nE (by rw [lt1];omega),wCy hf,nN,nD (by omega)] at this
       exact this
      have a2:(cu.drop (i * sz + 1 * sz)).take ((p.length - i) * sz)=nA enc (p.drop i):=by
       have:=congrArg (List.drop ((i + 1) * sz)) ht
       rw [List.drop_left' lt1,List.drop_take,nH,lt1,ld,show (i + 1) * sz + (p.length - i) * sz - (i + 1) * sz=(p.length - i) * sz by omega] at this
       rw [m1]
       exact this
      rw [a1]
      have hL:(nA enc (p.take i) ++ nA enc q ++ nA enc (p.drop i)).length=(nA enc (p.take i) ++ nA enc q).length + (p.length - i) * sz:=by rw [nH,ld]
      rw [hL,List.take_length_add_append,a2]) (by rw [wAF hf,len3];exact hcr)
     refine ⟨_,rfl,U,[.row (some ⟨b,0,none⟩) c T sz (nA enc (p.take i ++ q ++ p.drop i)),.row (some ⟨vb,0,none⟩) c2 T2 sz (nA enc q)],?_,some ⟨b,0,none⟩,c,by rw [len3],rfl⟩
     simpa using s2
    ·refine Calls.mono' (HM b p.length c i vb c2 (nA enc p) (nA enc q) w hl hlq (fun v hv=>wCz (hall p v hv)) (fun v hv=>wCz (hall q v hv)) (fun k v hk=>hS.rowCell (j:=0) rfl hk) (fun k v hk=>hS.rowCell (j:=1) rfl hk) hlt hnc (by omega) hbig) ?_
     rintro e w' ⟨rfl,rfl⟩
     rw [wCH hf,wCy hf,zeroCellsK _ _ _ h0,zeroCellsK _ _ _ h0]
     generalize hG:grownCap w (p.length + 1) c T=G at G1 G2
     have hcG:=hcm G1
     have s1:=hS.new (k:=wAp _ (.cells ((nA enc (p.take i)).toArray ++ (nG ((p.length + 1 - i) * sz) z).toArray ++ (nG ((G - (p.length + 1)) * sz) z).toArray) T)) (r:=.row (some ⟨w.heap.size,0,none⟩) G T sz (nA enc (p.take i))) (b:=w.heap.size)
      (.inr ⟨_,_,rfl,by
       rw [nM,nM]
       exact wCc _ _ _,by rw [li];omega,G2,by
       simp [li]
       rw [<- nJ,<- nJ]
       congr 1
       omega,by simp⟩) rfl (nO _)
     have s2:=s1.drew.setCellsExt P (k:=0) (o:=i * sz) (vs:=nA enc q) rfl li.symm (by rw [hlq];omega) (hall q)
     rw [<- nB] at s2
     have s3:=s2.drew.setCellsExt P (k:=0) (o:=(i + 1) * sz) (vs:=nA enc (p.drop i)) rfl (by rw [wAF hf,nH,hq,nK,nD hin]) (by rw [ld];omega) (hall _)
     rw [<- nB] at s3
     exact ⟨_,rfl,U,_,s3.drop 1,some ⟨w.heap.size,0,none⟩,G,by rw [len3],rfl⟩
 ·cases hm
end
end Go.KL
namespace Go.Proofs
theorem wEJ {P:Program} {ops:Array Oper} {o:Oper} {a:Act} {w:World} {K:Act->World->Prop} {Q:Exit->Act->World->Prop} {E:Prop}
  (hg:o.guard=none) (d x:Operand) (dT sT:TypeId) (hop:o.op=Op.call { callee:=Callee.builtin Builtin.copy,args:=#[d,x],argTypes:=#[dT,sT] })
  (v u:Value) (hd:a.eval d=v) (hx:a.eval x=u) {v':Value} {w':World} (hr:(Builtin.copy_ #[dT,sT] o.type #[v,u]).run P w=.ok v' w') (hK:K (a.put o.dst v') w') :
  if Region.wanted o (yielded ops a.tmps)=true then Oper.wp P o a w K Q else E:=by
 have hw:Region.wanted o (yielded ops a.tmps)=true:=by simp [Region.wanted,hg]
 rw [if_pos hw]
 unfold Oper.wp
 simp [execOp,hop,resolve,invoke,builtin,hd,hx,hr,Result.andThen]
 exact hK
end Go.Proofs
