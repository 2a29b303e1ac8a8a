import Derived.Test.YtnbcoenjobdplaaGreatB0
set_option linter.all false
open List renaming getElem?_eq_getElem->hM,getElem?_eq_some_iff->nA,count_pos_iff->nB,count_append->nD,mem_of_getElem?->nG,mem_append_left->nH,drop_eq_getElem_cons->nI,getElem?_append_left->nJ,getElem?_zip_eq_some->nK,drop_eq_nil_of_le->nL,mem_append->nN,count_eq_zero_of_not_mem->nO,length_append->nQ,getElem?_append_right->nR,getElem?_map->nS,flatMap->nT,getElem_mem->nU,length_nil->nV,mem_append_right->nX,getElem?_eq_none->nY,getElem?_of_mem->nZ,mem_cons->na,mem_singleton->ng,zipWith->nh,flatten_cons->ni
open Option.some renaming inj->nE
open Nat renaming zero_add->nM,le_refl->nP,blt->nW
open Option renaming bind_some->nj
open List.cons renaming inj->nk
namespace Go.KL
open Go.RowKit
open Go.KX (LoopAt Yd wMh Dfr wLv retM)
section
variable {r:Option Nat} {N:Nat} {P:Program} {Q:wEQ} {D:List Deferred} {B:Base} {U:PHeap} {L:List Res} {σ:Env} {w:World} {X S E:Type} {ar:PHeap->X->List Value->Prop}
 {PY:S->PHeap->List Res->Prop} {PE:E->PHeap->List Res->Prop} {f:S->X->Option (S ⊕ E)}
end
section
variable {N:Nat} {P:Program} {Q:wEQ} {D:List Deferred} {l:List Oper} {ks:List Nat} {B:Base} {U:PHeap} {L:List Res} {σ:Env} {w:World} {o:Oper} {d i:Nat} {s:Sch}
theorem wOn (z:Array Value) (n:Nat):(Builtin.zeroCells z n).toList.length=n * z.size:=by simp [Builtin.zeroCells]
theorem OKS.append0 {α:Type} {t e sz j c2 bytes b:Nat} {A2:Option Addr} {inf:TypeInfo} {z:Value} {x y:Operand} {enc:α->List Value} {ys zs:List α}
  (ho:l[i]?=some o) (hd:o.dst=some d) (hN:nW d N=true) (hw:wanted l σ o=true) (hop:o.op=.call { callee:=.builtin .append,args:=#[x,y],argTypes:=#[t,t] })
  (ht:P.underlying t=some (.slice e)) (hi:P.info? e=some inf) (hz:inf.zero=some z) (hsize:inf.size=sz) (hzs:z.cells.size=sz) (hsz:nW 0 sz=true) (hby:inf.bytes=bytes) (hb0:nW 0 bytes=true)
  (hS:St B U L w) (hk:L[j]?=some (.row (some ⟨b,0,none⟩) 0 e sz [])) (hx:ev σ x=.slice (some ⟨b,0,none⟩) 0 0) (hy:ev σ y=.slice A2 ys.length c2)
  (hsrc:ys.length=0 \/ ∃ a,A2=some a/\∀ j u,(ys.flatMap enc)[j]?=some u->w.cell? (a.add j)=some u) (hel:∀ x,(enc x).length=sz)
  (happ:app bytes ([]:List α) ys=some zs)
  (k:∀ A' c' w',St B U (L.set j (.row A' c' e sz (zs.flatMap enc))) w'->OKS N P l Q D ks s (upd σ d (.slice A' zs.length c')) w'):OKS N P l Q D ks (.fx i s .stop) σ w:=by
 obtain ⟨e1,hb⟩:=wKU happ
 rw [List.nil_append] at e1
 subst zs
 subst hsize hby
 have hb0':0 < inf.bytes:=by simpa [Nat.blt_eq] using hb0
 have hsz':0 < inf.size:=by simpa [Nat.blt_eq] using hsz
 rw [nV,nM] at hb
 by_cases hm:ys.length=0
 ·have:ys=[]:=List.eq_nil_of_length_eq_zero hm
  subst this
  have hr:(Builtin.append_ #[t,t] o.type #[.slice (some ⟨b,0,none⟩) 0 0,.slice A2 0 c2]).run P w=.ok (.slice (some ⟨b,0,none⟩) 0 0) w:=by
   cases A2 <;> simp [Builtin.append_,run_underlying ht,sizeOf,typeInfo,hi,Builtin.lenOf,Builtin.firstCells,loadCells,loadCellsFrom,storeCells]
  refine OKS.v (v:=.slice (some ⟨b,0,none⟩) 0 0) (w':=w) ho hd hN hw ⟨by rw [hop];rfl,?_⟩ (.inr (Keep.refl w _)) (k _ _ _ (hS.set hk (Keep.refl w _) ?_ fun b hb=>.inl hb))
  ·simp only [nV] at hy
   simp [execOp,hop,resolve,invoke,builtin,hx,hy,hr,Result.andThen]
  ·exact hS.at_ _ (nG hk)
 ·obtain ⟨a,rfl,ha⟩:=hsrc.resolve_left hm
  have hl:(ys.flatMap enc).length=ys.length * inf.size:=wAF hel ys
  have hys:ys.length <= ys.length * inf.bytes:=Nat.le_mul_of_pos_right _ hb0'
  have hr:=run_append_grow (P:=P) w t o.type e inf z ht hi hz ⟨b,0,none⟩ 0 0 [] (by simp) (fun j v h=>by simp at h) a ys.length c2 (ys.flatMap enc) hl ha (by omega) (by omega) (growslice_fits (by omega) (by simpa using hb))
  have hG:=grownCap_ge w (0 + ys.length) 0 e
  have hG2:=grownCap_le_maxLen w (0 + ys.length) 0 e (by unfold maxLen;omega)
  generalize grownCap w (0 + ys.length) 0 e=G at hr hG hG2
  rw [nM] at hr hG
  have ec:(([]:List Value).toArray ++ (ys.flatMap enc).toArray ++ Builtin.zeroCells z.cells (G - ys.length))=(ys.flatMap enc ++ (Builtin.zeroCells z.cells (G - ys.length)).toList).toArray:=by
   apply Array.ext'
   simp
  rw [ec] at hr
  have kp:=(Keep.drew w).trans' (wBl w.drew (.cells (ys.flatMap enc ++ (Builtin.zeroCells z.cells (G - ys.length)).toList).toArray e))
  have zl:(Builtin.zeroCells z.cells (G - ys.length)).toList.length=(G - ys.length) * inf.size:=by rw [wOn,hzs]
  refine OKS.v (v:=.slice (some ⟨w.heap.size,0,none⟩) ys.length G) (w':=w.drew.alloc (.cells (ys.flatMap enc ++ (Builtin.zeroCells z.cells (G - ys.length)).toList).toArray e)) ho hd hN hw ⟨by rw [hop];rfl,?_⟩ (.inr kp) (k _ _ _ (hS.set hk (kp.weak fun x _ h=>h.elim) (.inr ⟨_,(ys.flatMap enc ++ (Builtin.zeroCells z.cells (G - ys.length)).toList).toArray,rfl,wEd w.drew _ e,?_,hG2,?_,?_⟩) fun b hb=>.inr ?_))
  ·simp [execOp,hop,resolve,invoke,builtin,hx,hy,hr,Result.andThen]
  ·rw [hl];exact Nat.mul_le_mul_right _ hG
  ·simp only [List.size_toArray,nQ,zl,hl,<- Nat.add_mul]
   rw [show ys.length + (G - ys.length)=G by omega]
  ·simp
  ·have hb:w.heap.size=b:=nE hb
   exact Nat.le_of_eq hb
end
end Go.KL
namespace Go.KL
open Go.RowKit
def bks:Option Addr->List Nat
 | none=>[]
 | some a=>[a.block]
def Ows (lo U:PHeap) (ls:List Nat):Prop:=∀ b,ls.count b <= 1/\(b ∈ ls->lo b=none/\∃ o,U b=some o)
theorem Ows.nil (lo U:PHeap):Ows lo U []:=fun b=>⟨by simp,fun h=>by cases h⟩
theorem Ows.le {lo U U':PHeap} {ls:List Nat} (h:Ows lo U ls) (l:PHeap.Le U U'):Ows lo U' ls:=fun b=>⟨(h b).1,fun hb=>⟨((h b).2 hb).1,by obtain ⟨o,ho⟩:=((h b).2 hb).2;exact ⟨o,l _ _ ho⟩⟩⟩
theorem Ows.low {lo lo' U:PHeap} {ls:List Nat} (h:Ows lo U ls) (l:PHeap.Le lo' lo):Ows lo' U ls:=fun b=>by
 refine ⟨(h b).1,fun hb=>?_⟩
 obtain ⟨h1,h2⟩:=(h b).2 hb
 refine ⟨?_,h2⟩
 cases e:lo' b with
 | none=>rfl
 | some o=>have:=l _ _ e;rw [h1] at this;cases this
theorem Ows.cat {a b c d:PHeap} {l1 l2:List Nat} (h1:Ows a b l1) (h2:Ows c d l2) (ab:PHeap.Le a b) (bc:PHeap.Le b c) (bd:PHeap.Le b d):Ows a d (l1 ++ l2):=fun x=>by
 have g1:=h1.le bd
 have g2:=h2.low (ab.trans bc)
 refine ⟨?_,fun hx=>?_⟩
 ·rw [nD]
  by_cases c1:x ∈ l1
  ·obtain ⟨_,o,ho⟩:=(h1 x).2 c1
   have c2:x ∉ l2:=fun hx=>by have:=((h2 x).2 hx).1;rw [bc _ _ ho] at this;cases this
   rw [nO c2]
   exact (h1 x).1
  ·rw [nO c1,nM]
   exact (h2 x).1
 ·rcases nN.1 hx with hx | hx
  ·exact (g1 x).2 hx
  ·exact (g2 x).2 hx
theorem Ows.perm {lo U:PHeap} {l1 l2:List Nat} (h:Ows lo U l1) (p:∀ b,l2.count b=l1.count b):Ows lo U l2:=fun b=>by
 refine ⟨by rw [p];exact (h b).1,fun hb=>(h b).2 ?_⟩
 rw [<- nB] at hb ⊢
 rw [<- p];exact hb
theorem Ows.left {lo U:PHeap} {l1 l2:List Nat} (h:Ows lo U (l1 ++ l2)):Ows lo U l1:=fun b=>by
 have:=(h b).1
 rw [nD] at this
 exact ⟨by omega,fun hb=>(h b).2 (by simp [hb])⟩
theorem Ows.right {lo U:PHeap} {l1 l2:List Nat} (h:Ows lo U (l1 ++ l2)):Ows lo U l2:=fun b=>by
 have:=(h b).1
 rw [nD] at this
 exact ⟨by omega,fun hb=>(h b).2 (by simp [hb])⟩
theorem Ows.apart {lo U:PHeap} {l1 l2:List Nat} (h:Ows lo U (l1 ++ l2)) {b:Nat}:¬ (b ∈ l1/\b ∈ l2):=fun ⟨h1,h2⟩=>by
 have:=(h b).1
 rw [nD] at this
 rw [<- nB] at h1 h2
 omega
def PHeap.del (U:PHeap) (β:Nat):PHeap:=fun b=>if b=β then none else U b
theorem Ows.stay {lo U U':PHeap} {ls:List Nat} (h:Ows lo U ls) (l:PHeap.Le U U'):∀ b ∈ ls,U' b=U b:=fun b hb=>by
 obtain ⟨_,o,ho⟩:=(h b).2 hb
 rw [ho];exact l b o ho
theorem Sl.at {U U':PHeap} {sz c n:Nat} {A:Option Addr} {cs:List Value} (h:Sl U sz A c n cs) (e:∀ b ∈ bks A,U' b=U b):Sl U' sz A c n cs :=
 ⟨h.len,h.cap,h.mem.imp id fun ⟨b,off,arr,T,fr,h1,h2,h3⟩=>⟨b,off,arr,T,fr,h1,(e b (by rw [h1];simp [bks])).trans h2,h3⟩⟩
structure Rf (α:Type) where
 R:Rl α
 f:PHeap->α->List Value->List Nat->Prop
 fr:∀ U x vs ls,f U x vs ls->R.r U x vs
 loc:∀ U U' x vs ls,f U x vs ls->(∀ b ∈ ls,U' b=U b)->f U' x vs ls
def RlF {α:Type} (U:PHeap) (F:Rf α) (xs:List α) (cs:List Value) (ls:List Nat):Prop :=
 ∃ (vss:List (List Value)) (lss:List (List Nat)),vss.length=xs.length/\lss.length=xs.length/\(∀ (i:Nat) (x:α) (vs:List Value) (l:List Nat),xs[i]?=some x->vss[i]?=some vs->lss[i]?=some l->F.f U x vs l)/\cs=vss.flatten/\ls=lss.flatten
theorem RlF.toL {α:Type} {U:PHeap} {F:Rf α} {xs:List α} {cs:List Value} {ls:List Nat} (h:RlF U F xs cs ls):RlL U F.R xs cs:=by
 obtain ⟨vss,lss,h1,h2,h3,h4,h5⟩:=h
 refine ⟨vss,h1,fun i x vs hx hv=>?_,h4⟩
 have hi:=(nA.1 hx).1
 exact F.fr _ _ _ _ (h3 i x vs (lss[i]'(by omega)) hx hv (hM (by omega)))
theorem wGm {α:Type} {lss:List (List α)} {i:Nat} {l:List α} {b:α} (h:lss[i]?=some l) (hb:b ∈ l):b ∈ lss.flatten:=List.mem_flatten.2 ⟨l,nG h,hb⟩
theorem wKz {lss:List (List Nat)} {b:Nat}:∀ {i j:Nat} {l m:List Nat},lss.flatten.count b <= 1->lss[i]?=some l->lss[j]?=some m->b ∈ l->b ∈ m->i=j:=by
 induction lss with
 | nil=>intro i j l m _ h;simp at h
 | cons a lss ih =>
  intro i j l m hc hi hj hl hm
  rw [ni,nD] at hc
  cases i with
  | zero =>
   cases j with
   | zero=>rfl
   | succ j =>
    simp at hi hj
    subst hi
    have h1:=nB.2 hl
    have h2:=nB.2 (wGm (b:=b) hj hm)
    omega
  | succ i =>
   cases j with
   | zero =>
    simp at hi hj
    subst hj
    have h1:=nB.2 hm
    have h2:=nB.2 (wGm (b:=b) hi hl)
    omega
   | succ j =>
    have:=ih (i:=i) (j:=j) (by omega) (by simpa using hi) (by simpa using hj) hl hm
    omega
theorem wMC {lss:List (List Nat)} {b:Nat}:∀ {i:Nat} {l:List Nat},lss[i]?=some l->l.count b <= lss.flatten.count b:=by
 induction lss with
 | nil=>intro i l h;simp at h
 | cons a lss ih =>
  intro i l h
  rw [ni,nD]
  cases i with
  | zero=>simp at h;subst h;omega
  | succ i=>have:=ih (i:=i) (l:=l) (by simpa using h);omega
theorem RlF.up {α:Type} {U U':PHeap} {F:Rf α} {xs:List α} {cs:List Value} {ls:List Nat} (h:RlF U F xs cs ls) (e:∀ b ∈ ls,U' b=U b):RlF U' F xs cs ls:=by
 obtain ⟨vss,lss,h1,h2,h3,h4,rfl⟩:=h
 exact ⟨vss,lss,h1,h2,fun i x vs l hx hv hl=>F.loc _ _ _ _ _ (h3 i x vs l hx hv hl) fun b hb=>e b (wGm hl hb),h4,rfl⟩
theorem RlF.nil {α:Type} {U:PHeap} {F:Rf α}:RlF U F ([]:List α) [] []:=⟨[],[],rfl,rfl,fun i x vs l hx=>by simp at hx,rfl,rfl⟩
theorem RlF.snoc {α:Type} {U:PHeap} {F:Rf α} {xs:List α} {cs:List Value} {ls:List Nat} {x:α} {vs:List Value} {l:List Nat} (h:RlF U F xs cs ls) (g:F.f U x vs l):RlF U F (xs ++ [x]) (cs ++ vs) (ls ++ l):=by
 obtain ⟨vss,lss,h1,h2,h3,rfl,rfl⟩:=h
 refine ⟨vss ++ [vs],lss ++ [l],by simp [h1],by simp [h2],fun i y us m hy hu hm=>?_,by simp,by simp⟩
 rcases Nat.lt_or_ge i xs.length with hi | hi
 ·rw [nJ hi] at hy
  rw [nJ (by omega)] at hu hm
  exact h3 i y us m hy hu hm
 ·have e:i=xs.length:=by
   have:=(nA.1 hy).1
   simp at this;omega
  subst e
  rw [nR (by omega)] at hy hu hm
  simp [h1,h2] at hy hu hm
  subst hy hu hm
  exact g
def SlF {α:Type} (U:PHeap) (F:Rf α) (A:Option Addr) (c:Nat) (xs:List α) (ls:List Nat):Prop:=∃ cs l,Sl U F.R.sz A c xs.length cs/\RlF U F xs cs l/\ls=l ++ bks A
theorem SlF.toR {α:Type} {U:PHeap} {F:Rf α} {A:Option Addr} {c:Nat} {xs:List α} {ls:List Nat} (h:SlF U F A c xs ls):SlR U F.R A c xs:=by
 obtain ⟨cs,l,h1,h2,_⟩:=h
 exact ⟨cs,h1,h2.toL⟩
theorem SlF.up {α:Type} {U U':PHeap} {F:Rf α} {A:Option Addr} {c:Nat} {xs:List α} {ls:List Nat} (h:SlF U F A c xs ls) (e:∀ b ∈ ls,U' b=U b):SlF U' F A c xs ls:=by
 obtain ⟨cs,l,h1,h2,rfl⟩:=h
 exact ⟨cs,l,h1.at fun b hb=>e b (by simp [hb]),h2.up fun b hb=>e b (by simp [hb]),rfl⟩
def RowP (U:PHeap) (A:Option Addr) (c:Nat) (T:TypeId) (sz:Nat) (cs:List Value):Prop :=
 (A=none/\c=0/\cs=[]) \/ ∃ b cur,A=some ⟨b,0,none⟩/\U b=some (.cells cur T (0,0))/\cs.length <= c * sz/\c <= maxLen/\cur.size=c * sz/\cur.toList.take cs.length=cs
theorem RowP.at {U U':PHeap} {A:Option Addr} {c sz:Nat} {T:TypeId} {cs:List Value} (h:RowP U A c T sz cs) (e:∀ b ∈ bks A,U' b=U b):RowP U' A c T sz cs :=
 h.imp id fun ⟨b,cur,h1,h2,h3⟩=>⟨b,cur,h1,(e b (by rw [h1];simp [bks])).trans h2,h3⟩
theorem RowP.le {U U':PHeap} {A:Option Addr} {c sz:Nat} {T:TypeId} {cs:List Value} (h:RowP U A c T sz cs) (l:PHeap.Le U U'):RowP U' A c T sz cs :=
 h.imp id fun ⟨b,cur,h1,h2,h3⟩=>⟨b,cur,h1,l _ _ h2,h3⟩
theorem RowP.sl {U:PHeap} {A:Option Addr} {c sz n:Nat} {T:TypeId} {cs:List Value} (h:RowP U A c T sz cs) (hn:cs.length=n * sz) (hz:0 < sz):Sl U sz A c n cs:=by
 rcases h with ⟨rfl,rfl,rfl⟩ | ⟨b,cur,rfl,h1,h2,h3,h4,h5⟩
 ·have:n=0:=by
   simp only [nV] at hn
   rcases Nat.eq_zero_or_pos n with e | e
   ·exact e
   ·have:=Nat.mul_pos e hz;omega
  subst this
  exact Sl.nil _ _ _ _
 ·refine ⟨hn,?_,.inr ⟨b,0,cur,T,(0,0),rfl,h1,?_⟩⟩
  ·rw [hn] at h2;exact Nat.le_of_mul_le_mul_right h2 hz
  ·rw [<- hn];simpa using h5
section
variable {B:Base} {U U':PHeap} {L:List Res} {w w':World}
theorem St.freezeRP (h:St B U L w) {k c T sz:Nat} {A:Option Addr} {cs:List Value} (hk:L[k]?=some (.row A c T sz cs)) :
  ∃ U',PHeap.Le U U'/\RowP U' A c T sz cs/\Ows U U' (bks A)/\St B U' (L.eraseIdx k) w:=by
 have hm:=nG hk
 rcases h.at_ _ hm with ⟨rfl,rfl,rfl⟩ | ⟨b,cur,rfl,h1,h2⟩
 ·exact ⟨U,PHeap.Le.refl U,.inl ⟨rfl,rfl,rfl⟩,Ows.nil _ _,h.drop k⟩
 ·obtain ⟨U',g1,g2,g3⟩:=h.freezeB ⟨_,hk,rfl⟩
  have hn:=(h.own _ hm b rfl).1
  refine ⟨U',g1,.inr ⟨b,cur,rfl,g2.trans h1,h2⟩,fun x=>⟨by simp only [bks,List.count_cons,List.count_nil];split <;> omega,fun hx=>?_⟩,g3⟩
  simp only [bks,ng] at hx
  subst hx
  exact ⟨hn,_,g2.trans h1⟩
theorem St.thaw (h:St B U L w) {c T sz β:Nat} {cs:List Value} (hr:RowP U (some ⟨β,0,none⟩) c T sz cs) (hB:B.U β=none):St B (U.del β) (.row (some ⟨β,0,none⟩) c T sz cs :: L) w:=by
 rcases hr with ⟨hA,_,_⟩ | ⟨b,cur,hA,h1,h2⟩
 ·cases hA
 ·cases hA
  have hd:∀ x o,U.del β x=some o->U x=some o:=fun x o hx=>by
   unfold PHeap.del at hx
   split at hx
   ·cases hx
   ·exact hx
  have old:∀ s ∈ L,¬ s.has β:=fun s hs hb=>by have:=(h.own s hs β hb).1;rw [h1] at this;cases this
  refine ⟨h.os,h.tape,h.output,h.size,h.old,fun x o hx=>h.fro x o (hd x o hx),fun x o hx=>?_,fun x o hx=>h.src x o (hd x o hx),fun r hr=>?_,fun r hr x hx=>?_,fun i j r s x hi hj hr hs=>?_⟩
  ·have:=h.le x o hx
   unfold PHeap.del
   rw [if_neg (fun e=>by subst e;rw [hB] at hx;cases hx)]
   exact this
  ·rcases na.1 hr with rfl | hr
   ·exact .inr ⟨β,cur,rfl,h.fro _ _ h1,h2⟩
   ·exact h.at_ r hr
  ·rcases na.1 hr with rfl | hr
   ·cases hx
    refine ⟨by simp [PHeap.del],?_⟩
    rcases h.src _ _ h1 with e | e
    ·rw [hB] at e;cases e
    ·exact e
   ·have:=h.own r hr x hx
    refine ⟨?_,this.2⟩
    unfold PHeap.del
    split
    ·rfl
    ·exact this.1
  ·cases i with
   | zero =>
    cases j with
    | zero=>rfl
    | succ j =>
     simp at hi hj
     subst hi
     cases hr
     exact absurd hs (old s (nG hj))
   | succ i =>
    cases j with
    | zero =>
     simp at hi hj
     subst hj
     cases hs
     exact absurd hr (old r (nG hi))
    | succ j =>
     have:=h.dj i j r s x (by simpa using hi) (by simpa using hj) hr hs
     omega
end
def RlT {α:Type} (lo U:PHeap) (F:Rf α) (xs:List α) (cs:List Value):Prop:=∃ ls,RlF U F xs cs ls/\Ows lo U ls
theorem RlT.nil {α:Type} {lo U:PHeap} {F:Rf α}:RlT lo U F ([]:List α) []:=⟨[],RlF.nil,Ows.nil _ _⟩
theorem RlT.le {α:Type} {lo U U':PHeap} {F:Rf α} {xs:List α} {cs:List Value} (h:RlT lo U F xs cs) (l:PHeap.Le U U'):RlT lo U' F xs cs:=by
 obtain ⟨ls,h1,h2⟩:=h
 exact ⟨ls,h1.up (h2.stay l),h2.le l⟩
theorem RlT.low {α:Type} {lo lo' U:PHeap} {F:Rf α} {xs:List α} {cs:List Value} (h:RlT lo U F xs cs) (l:PHeap.Le lo' lo):RlT lo' U F xs cs:=by
 obtain ⟨ls,h1,h2⟩:=h
 exact ⟨ls,h1,h2.low l⟩
theorem RlT.toL {α:Type} {lo U:PHeap} {F:Rf α} {xs:List α} {cs:List Value} (h:RlT lo U F xs cs):RlL U F.R xs cs:=by
 obtain ⟨ls,h1,_⟩:=h
 exact h1.toL
theorem RlT.snoc {α:Type} {lo U lo' U':PHeap} {F:Rf α} {xs:List α} {cs:List Value} {x:α} {vs:List Value} {l:List Nat} (h:RlT lo U F xs cs) (g:F.f U' x vs l) (o:Ows lo' U' l) (a:PHeap.Le lo U) (b:PHeap.Le U lo') (c:PHeap.Le U U'):RlT lo U' F (xs ++ [x]) (cs ++ vs):=by
 obtain ⟨ls,h1,h2⟩:=h
 exact ⟨ls ++ l,(h1.up (h2.stay c)).snoc g,h2.cat o a b c⟩
section
variable {N:Nat} {P:Program} {l:List Oper} {Q:wEQ} {D:List Deferred} {ks:List Nat} {σ:Env} {w:World} {i d:Nat} {s:Sch} {o:Oper} {B:Base} {U:PHeap} {L:List Res}
theorem OKS.appendRT {α:Type} {R:Rl α} {t e sz j c c2 bytes:Nat} {A A2:Option Addr} {inf:TypeInfo} {z:Value} {x y:Operand} {xs ys zs:List α} {cs ds:List Value}
  (ho:l[i]?=some o) (hd:o.dst=some d) (hN:nW d N=true) (hw:wanted l σ o=true) (hop:o.op=.call { callee:=.builtin .append,args:=#[x,y],argTypes:=#[t,t] })
  (ht:P.underlying t=some (.slice e)) (hi:P.info? e=some inf) (hz:inf.zero=some z) (hsize:inf.size=sz) (hzs:z.cells.size=sz) (hsz:nW 0 sz=true) (hby:inf.bytes=bytes) (hb0:nW 0 bytes=true) (hR:R.sz=sz)
  (hS:St B U L w) (hk:L[j]?=some (.row A c e sz cs)) (hx:ev σ x=.slice A xs.length c) (hy:ev σ y=.slice A2 ys.length c2) (hc:RlL U R xs cs) (hd':RlL U R ys ds)
  (hsrc:ys.length=0 \/ ∃ a,A2=some a/\∀ j u,ds[j]?=some u->w.cell? (a.add j)=some u) (happ:app bytes xs ys=some zs) (hne:wHA (kOf ks i)=false)
  (k:∀ A' c' w',St B U (L.set j (.row A' c' e sz (cs ++ ds))) w'->RlL U R zs (cs ++ ds)->zs=xs ++ ys->OKS N P l Q D ks s (upd σ d (.slice A' zs.length c')) w'):OKS N P l Q D ks (.fx i s .stop) σ w:=by
 obtain ⟨rfl,hb⟩:=wKU happ
 refine OKS.appendC (n:=xs.length) (m:=ys.length) (news:=ds) ho hd hN hw hop ht hi hz hsize hzs hsz hby hb0 hS hk hx (by rw [<- hR];exact hc.len) hy (by rw [<- hR];exact hd'.len) hsrc hd'.one hb hne ?_
 intro A' c' w' hS'
 have:=k A' c' w' hS' (hc.append hd') rfl
 rwa [nQ] at this
end
end Go.KL
namespace Go.KL
open Go.RowKit
def hbs (hs:List Hd):List Nat:=hs.flatMap fun h=>bks h.A
theorem wHf (h:Hd) (hs:List Hd):hbs (h :: hs)=bks h.A ++ hbs hs:=rfl
def PHeap.dels (U:PHeap) (l:List Nat):PHeap:=fun b=>if b ∈ l then none else U b
theorem PHeap.dels_at {U:PHeap} {l:List Nat} {b:Nat} (h:b ∉ l):U.dels l b=U b:=if_neg h
theorem PHeap.dels_nil (U:PHeap):U.dels []=U:=funext fun b=>if_neg (by simp)
theorem PHeap.dels_app (U:PHeap) (l m:List Nat):(U.dels l).dels m=U.dels (l ++ m):=funext fun b=>by
 unfold PHeap.dels
 by_cases h1:b ∈ m <;> by_cases h2:b ∈ l <;> simp [h1,h2]
theorem PHeap.dels_le {lo U:PHeap} {l:List Nat} (h:PHeap.Le lo U) (hl:∀ b ∈ l,lo b=none):PHeap.Le lo (U.dels l):=fun b o hb=>by
 rw [PHeap.dels_at fun hm=>by rw [hl b hm] at hb;cases hb]
 exact h b o hb
structure Tk {α β:Type} (F:Rf α) (R':Rl (α × Hd)) where
 fld:α->List β
 enc:β->List Value
 T:TypeId
 sz:Nat
 G:PHeap->α->Hd->List Value->List Nat->Prop
 size:R'.sz=F.R.sz
 loc:∀ U U' x h vs l,G U x h vs l->(∀ b ∈ l,U' b=U b)->G U' x h vs l
 toR:∀ U x h vs l,G U x h vs l->R'.r U (x,h) vs
 split:∀ U x vs l,F.f U x vs l->∃ h l',G U x h vs l'/\RowP U h.A h.c T sz (nT enc (fld x))/\h.n=(fld x).length/\∀ b,l.count b=(bks h.A ++ l').count b
theorem RlF.uncons {α:Type} {U:PHeap} {F:Rf α} {x:α} {xs:List α} {cs:List Value} {ls:List Nat} (h:RlF U F (x :: xs) cs ls) :
  ∃ vs cs' l l',cs=vs ++ cs'/\ls=l ++ l'/\F.f U x vs l/\RlF U F xs cs' l':=by
 obtain ⟨vss,lss,h1,h2,h3,rfl,rfl⟩:=h
 cases vss with
 | nil=>simp at h1
 | cons vs vss =>
  cases lss with
  | nil=>simp at h2
  | cons l lss =>
   exact ⟨vs,vss.flatten,l,lss.flatten,rfl,rfl,h3 0 x vs l rfl rfl rfl,vss,lss,by simpa using h1,by simpa using h2,fun i y us m hy hu hm=>h3 (i + 1) y us m (by simpa using hy) (by simpa using hu) (by simpa using hm),rfl,rfl⟩
section
variable {B:Base} {U:PHeap} {L:List Res} {w:World}
theorem St.thawA (h:St B U L w) {c T sz:Nat} {A:Option Addr} {cs:List Value} (hr:RowP U A c T sz cs) (hB:∀ b ∈ bks A,B.U b=none):St B (U.dels (bks A)) (.row A c T sz cs :: L) w:=by
 rcases hr with ⟨rfl,rfl,rfl⟩ | ⟨b,cur,rfl,h1⟩
 ·rw [show U.dels (bks none)=U from PHeap.dels_nil U]
  exact h.nilrow T sz
 ·have e:U.dels (bks (some ⟨b,0,none⟩))=U.del b:=funext fun x=>by
   unfold PHeap.dels PHeap.del bks
   simp
  rw [e]
  exact h.thaw (.inr ⟨b,cur,rfl,h1⟩) (hB b (by simp [bks]))
theorem St.openR {α β:Type} {F:Rf α} {R':Rl (α × Hd)} (K:Tk (β:=β) F R') {lo:PHeap} (hB:PHeap.Le B.U lo):∀ (xs:List α) {U:PHeap} {L:List Res} {cs:List Value} {ls:List Nat},St B U L w->RlF U F xs cs ls->Ows lo U ls ->
  ∃ hs,hs.length=xs.length/\St B (U.dels (hbs hs)) (inn K.T K.sz K.enc hs (xs.map K.fld) :: L) w/\(∀ b ∈ hbs hs,b ∈ ls) /\
   ∃ (vss:List (List Value)) (lss:List (List Nat)),vss.length=xs.length/\lss.length=xs.length/\cs=vss.flatten/\(∀ l ∈ lss,∀ b ∈ l,b ∈ ls/\b ∉ hbs hs) /\
    ∀ (i:Nat) (x:α) (h:Hd) (vs:List Value) (l:List Nat),xs[i]?=some x->hs[i]?=some h->vss[i]?=some vs->lss[i]?=some l->K.G (U.dels (hbs hs)) x h vs l
 | [],U,L,cs,ls,hS,hF,_=>by
  obtain ⟨vss,lss,h1,h2,_,rfl,_⟩:=hF
  have:vss=[]:=by simpa using h1
  subst this
  refine ⟨[],rfl,?_,fun b hb=>by simp [hbs] at hb,[],[],rfl,rfl,rfl,fun l hl=>by simp at hl,fun i x h vs l hx=>by simp at hx⟩
  rw [show U.dels (hbs [])=U from PHeap.dels_nil U]
  exact hS.innNil _ _ _
 | x :: xs,U,L,cs,ls,hS,hF,hO=>by
  obtain ⟨vs,cs',l,l',rfl,rfl,hf,hF'⟩:=hF.uncons
  obtain ⟨h,l0,hG,hP,hn,hc⟩:=K.split _ _ _ _ hf
  have inl:∀ {b},b ∈ bks h.A \/ b ∈ l0->b ∈ l:=fun {b} hb=>by
   rw [<- nB,hc b,nD]
   rcases hb with hb | hb <;> have:=nB.2 hb <;> omega
  have apart0:∀ {b},b ∈ bks h.A->b ∈ l0->False:=fun {b} h1 h2=>by
   have a:=(hO b).1
   rw [nD,hc b,nD] at a
   have q1:=nB.2 h1
   have q2:=nB.2 h2
   omega
  have lob:∀ b ∈ l ++ l',lo b=none:=fun b hb=>((hO b).2 hb).1
  have hB0:∀ b ∈ bks h.A,B.U b=none:=fun b hb=>by
   have:=lob b (nH _ (inl (.inl hb)))
   cases e:B.U b with
   | none=>rfl
   | some o=>rw [hB b o e] at this;cases this
  have hS1:=hS.thawA hP hB0
  have stay:∀ b ∈ l',U.dels (bks h.A) b=U b:=fun b hb=>PHeap.dels_at fun hm=>hO.apart ⟨inl (.inl hm),hb⟩
  have hO1:Ows lo (U.dels (bks h.A)) l':=fun b=>⟨(hO.right b).1,fun hb=>⟨((hO.right b).2 hb).1,by rw [stay b hb];exact ((hO.right b).2 hb).2⟩⟩
  obtain ⟨hs,e1,hS2,sub,vss,lss,v1,v2,rfl,v4,v5⟩:=St.openR K hB xs hS1 (hF'.up stay) hO1
  have ed:(U.dels (bks h.A)).dels (hbs hs)=U.dels (hbs (h :: hs)):=by rw [PHeap.dels_app,wHf]
  rw [ed] at hS2 v5
  have notl:∀ b,b ∈ l0->b ∉ hbs (h :: hs):=fun b hb hm=>by
   rw [wHf] at hm
   rcases nN.1 hm with hm | hm
   ·exact apart0 hm hb
   ·exact hO.apart ⟨inl (.inr hb),sub b hm⟩
  refine ⟨h :: hs,by simp [e1],?_,fun b hb=>?_,vs :: vss,l0 :: lss,by simp [v1],by simp [v2],rfl,fun m hm b hb=>?_,fun i y g us m hy hg hu hm=>?_⟩
  ·have h3:=hS2.swap
   have h4:=St.innOne (T:=K.T) (sz:=K.sz) (enc:=K.enc) h3
   have h5:=h4.innApp
   rw [<- hn] at h5
   exact h5
  ·rw [wHf] at hb
   rcases nN.1 hb with hb | hb
   ·exact nH _ (inl (.inl hb))
   ·exact nX _ (sub b hb)
  ·rcases na.1 hm with rfl | hm
   ·exact ⟨nH _ (inl (.inr hb)),notl b hb⟩
   ·obtain ⟨q1,q2⟩:=v4 m hm b hb
    refine ⟨nX _ q1,fun hx=>?_⟩
    rw [wHf] at hx
    rcases nN.1 hx with hx | hx
    ·exact hO.apart ⟨inl (.inl hx),q1⟩
    ·exact q2 hx
  ·cases i with
   | zero =>
    simp at hy hg hu hm
    subst hy hg hu hm
    exact K.loc _ _ _ _ _ _ hG fun b hb=>PHeap.dels_at (notl b hb)
   | succ i=>exact v5 i y g us m (by simpa using hy) (by simpa using hg) (by simpa using hu) (by simpa using hm)
theorem St.openSl {α β:Type} {F:Rf α} {R':Rl (α × Hd)} (K:Tk (β:=β) F R') {lo:PHeap} (hB:PHeap.Le B.U lo) {A:Option Addr} {c:Nat} {xs:List α} {ls:List Nat} (hS:St B U L w) (hF:SlF U F A c xs ls) (hO:Ows lo U ls) :
  ∃ hs,hs.length=xs.length/\St B (U.dels (hbs hs)) (inn K.T K.sz K.enc hs (xs.map K.fld) :: L) w/\(∀ b ∈ hbs hs,b ∈ ls)/\(∀ b ∈ hbs hs,lo b=none)/\SlR (U.dels (hbs hs)) R' A c (xs.zip hs):=by
 obtain ⟨cs,l,h1,h2,rfl⟩:=hF
 obtain ⟨hs,e1,hS1,sub,vss,lss,v1,v2,rfl,v4,v5⟩:=St.openR K hB xs hS h2 hO.left
 refine ⟨hs,e1,hS1,fun b hb=>nH _ (sub b hb),fun b hb=>((hO b).2 (nH _ (sub b hb))).1,vss.flatten,?_,vss,by simp [v1,e1],fun i x vs hx hv=>?_,rfl⟩
 ·have hl:(xs.zip hs).length=xs.length:=by simp [e1]
  rw [hl,K.size]
  exact h1.at fun b hb=>PHeap.dels_at fun hm=>hO.apart ⟨sub b hm,hb⟩
 ·have hi:=(nA.1 hx).1
  rw [List.length_zip] at hi
  have e:(xs.zip hs)[i]?=some (xs[i]'(by omega),hs[i]'(by omega)):=by rw [nK];exact ⟨hM _,hM _⟩
  rw [e] at hx
  cases hx
  exact K.toR _ _ _ _ _ (v5 i _ _ vs (lss[i]'(by omega)) (hM _) (hM _) hv (hM _))
end
def rlS {β:Type} (sz:Nat) (enc:β->List Value):Rl (List β) where
 sz:=1
 r:=fun U x vs=>∃ (A:Option Addr) (c:Nat),vs=[.slice A x.length c]/\Sl U sz A c x.length (nT enc x)
 mono:=by rintro U U' x vs ⟨A,c,rfl,h⟩ hl;exact ⟨A,c,rfl,h.le hl⟩
 len:=by rintro U x vs ⟨A,c,rfl,h⟩;rfl
 one:=by rintro U x vs ⟨A,c,rfl,h⟩;rfl
theorem SlR.close {α β:Type} {U:PHeap} {R:Rl α} {R':Rl (α × Hd)} {sz:Nat} {enc:β->List Value} {A:Option Addr} {c:Nat} {xs:List α} {hs:List Hd} {m:List (List β)} (put:α->List β->α)
  (join:∀ x h l vs,R'.r U (x,h) vs->(rlS sz enc).r U l (wEX h)->R.r U (put x l) vs) (hsz:R'.sz=R.sz) (h:SlR U R' A c (xs.zip hs)) (hl:hs.length=xs.length) (p:Fit hs m) (hm:RlL U (rlS sz enc) m (nT wEX hs)):SlR U R A c (nh put xs m):=by
 obtain ⟨cs,h1,vss,v1,v2,rfl⟩:=h
 obtain ⟨uss,u1,u2,u3⟩:=hm
 have pl:=p.len
 have hz:(xs.zip hs).length=xs.length:=by simp [hl]
 have hw:(nh put xs m).length=xs.length:=by simp;omega
 refine ⟨vss.flatten,by rw [hw,<- hz,<- hsz];exact h1,vss,by rw [v1,hz,hw],fun i y vs hy hv=>?_,rfl⟩
 have hi:=(nA.1 hy).1
 rw [hw] at hi
 have e0:(xs.zip hs)[i]?=some (xs[i],hs[i]'(by omega)):=by rw [nK];exact ⟨hM _,hM _⟩
 have e1:(nh put xs m)[i]?=some (put xs[i] (m[i]'(by omega))):=by rw [List.getElem?_zipWith,hM hi,hM (by omega)]
 rw [e1] at hy
 cases hy
 refine join _ _ _ _ (v2 i _ vs e0 hv) ?_
 have eu:uss=hs.map wEX:=by
  have:∀ us ∈ uss,us.length=1:=fun us hu=>by
   obtain ⟨q,hq⟩:=nZ hu
   have hq':=(nA.1 hq).1
   exact (rlS sz enc).len _ _ _ (u2 q (m[q]'(by omega)) us (hM _) hq)
  have hlen:uss.length=(hs.map wEX).length:=by simp;omega
  refine List.ext_getElem hlen fun q q1 q2=>?_
  have h2:=congrArg (·[q]?) u3
  simp only [List.flatMap_def] at h2
  have f1:=wFI (sz:=1) this q 0 uss[q] (uss[q][0]'(by rw [this _ (nU _)];omega)) (hM _) (hM _)
  have f2:=wFI (vss:=hs.map wEX) (sz:=1) (fun vs hv=>by obtain ⟨h,_,rfl⟩:=List.mem_map.1 hv;rfl) q 0 (wEX (hs[q]'(by simpa using q2))) (.slice (hs[q]'(by simpa using q2)).A (hs[q]'(by simpa using q2)).n (hs[q]'(by simpa using q2)).c) (by rw [nS,hM (by simpa using q2)];rfl) rfl
  simp only [Nat.mul_one,Nat.add_zero] at f1 f2
  rw [f1,f2] at h2
  have l1:=this uss[q] (nU _)
  rw [List.getElem_map]
  refine List.ext_getElem (by rw [l1];rfl) fun j j1 j2=>?_
  have:j=0:=by omega
  subst this
  exact (nE h2).symm
 exact u2 i _ _ (hM _) (by rw [eu,nS,hM (by omega)];rfl)
theorem wMD {α:Type} {xs:List α} {hs:List Hd} (hl:hs.length=xs.length) {k:Nat} {x:α} (h:xs[k]?=some x):(xs.zip hs)[k]?=some (x,gd hs k):=by
 have hk:=(nA.1 h).1
 rw [nK]
 exact ⟨h,wCX (by omega)⟩
theorem St.freezeI {β:Type} {B:Base} {U:PHeap} {L:List Res} {w:World} {T sz:Nat} {enc:β->List Value} {hs:List Hd} {m:List (List β)} (h:St B U (inn T sz enc hs m :: L) w) (he:∀ x,(enc x).length=sz) (hz:0 < sz) :
  ∃ U',PHeap.Le U U'/\Fit hs m/\RlL U' (rlS sz enc) m (nT wEX hs)/\St B U' L w:=by
 obtain ⟨p,h1⟩:=h.unpack
 obtain ⟨U',g1,g2,g3⟩:=St.innFreeze (R:=rlS sz enc) (fun _ A c l hl=>⟨A,c,rfl,hl⟩) he hz p h1
 exact ⟨U',g1,p,g2,g3⟩
theorem SlF.elC {α:Type} {lo U:PHeap} {F:Rf α} {A:Option Addr} {c:Nat} {xs:List α} {ls:List Nat} (h:SlF U F A c xs ls) (o:Ows lo U ls) {k:Nat} {x:α} (hx:xs[k]?=some x) :
  ∃ b off vs l,A=some ⟨b,off,none⟩/\Cl U b (off + k * F.R.sz) vs/\F.f U x vs l/\Ows lo U l/\∀ D,(∀ q ∈ D,q ∈ l)->Cl (U.dels D) b (off + k * F.R.sz) vs/\∀ U' x',PHeap.Le (U.dels D) U'->F.R.r U' x' vs->SlR U' F.R A c (xs.set k x'):=by
 obtain ⟨cs,l0,h1,⟨vss,lss,a1,a2,a3,rfl,rfl⟩,rfl⟩:=h
 have hk:=(nA.1 hx).1
 have hv:vss[k]?=some (vss[k]'(by omega)):=hM (by omega)
 have hl:lss[k]?=some (lss[k]'(by omega)):=hM (by omega)
 have h2:RlF U F xs vss.flatten lss.flatten:=⟨vss,lss,a1,a2,a3,rfl,rfl⟩
 have own:∀ {i:Nat} {l:List Nat},lss[i]?=some l->Ows lo U l:=fun {i l} hi b=>⟨Nat.le_trans (wMC hi) (o.left b).1,fun hb=>(o.left b).2 (wGm hi hb)⟩
 have hlen:∀ vs ∈ vss,vs.length=F.R.sz:=fun vs hm=>by
  obtain ⟨i,hi⟩:=nZ hm
  have hlt:=(nA.1 hi).1
  exact F.R.len _ _ _ (F.fr _ _ _ _ (a3 i (xs[i]'(by omega)) vs (lss[i]'(by omega)) (hM (by omega)) hi (hM (by omega))))
 rcases h1.mem with h0 | ⟨b,off,arr,T,fr,hA,m2,m3⟩
 ·omega
 ·have cl:∀ U',U' b=U b->Cl U' b (off + k * F.R.sz) (vss[k]'(by omega)):=fun U' e=>⟨arr,T,fr,e.trans m2,fun j v hj=>by
   have:=wFI hlen k j _ v hv hj
   rw [<- m3,List.getElem?_take] at this
   split at this
   ·rw [List.getElem?_drop] at this
    rw [show off + k * F.R.sz + j=off + (k * F.R.sz + j) from by omega]
    simpa using this
   ·cases this⟩
  refine ⟨b,off,_,_,hA,cl U rfl,a3 k x _ _ hx hv hl,own hl,fun D hD=>?_⟩
  have nb:b ∉ D:=fun hb=>o.apart ⟨wGm hl (hD b hb),by rw [hA];simp [bks]⟩
  refine ⟨cl _ (PHeap.dels_at nb),fun U' x' hle hf=>?_⟩
  have get:∀ q,q ∉ D->∀ z,U q=some z->U' q=some z:=fun q hq z hz=>hle q z (by rw [PHeap.dels_at hq];exact hz)
  refine ⟨vss.flatten,?_,vss,by simp [a1],fun i y us hy hu=>?_,rfl⟩
  ·rw [List.length_set]
   exact h1.at fun q hq=>by
    rw [hA] at hq
    simp only [bks,ng] at hq
    subst hq
    rw [m2];exact get _ nb _ m2
  ·by_cases e:i=k
   ·subst e
    rw [List.getElem?_set_self (by omega)] at hy
    cases hy
    rw [hv] at hu
    cases hu
    exact hf
   ·rw [List.getElem?_set_ne (fun h=>e h.symm)] at hy
    have hi:=(nA.1 hy).1
    have hm:lss[i]?=some (lss[i]'(by omega)):=hM (by omega)
    refine F.fr _ _ _ _ (F.loc _ _ _ _ _ (a3 i y us _ hy hu hm) fun q hq=>?_)
    have nq:q ∉ D:=fun hd=>e (wKz (o.left q).1 hm hl hq (hD q hd))
    obtain ⟨_,z,hz⟩:=(own hm q).2 hq
    rw [hz];exact get q nq z hz
end Go.KL
namespace Go.KL
variable {S S' B B' α:Type}
theorem wKd {body:Nat->S->Option (S ⊕ B)} (I:Nat->S->Prop) (Z:B->Prop):∀ (m k:Nat) (s:S),I k s ->
  (∀ i s,k <= i->i < k + m->I i s->(∃ s',body i s=some (.inl s')/\I (i + 1) s') \/ ∃ b,body i s=some (.inr b)/\Z b) ->
  (∃ s',forN body m k s=some (.inl s')/\I (k + m) s') \/ ∃ b,forN body m k s=some (.inr b)/\Z b
 | 0,k,s,h,_=>.inl ⟨s,rfl,h⟩
 | m + 1,k,s,h,hb=>by
  simp only [forN]
  rcases hb k s (nP _) (by omega) h with ⟨s',h1,h2⟩ | ⟨b,h1,h2⟩
  ·rw [h1]
   have:=wKd I Z m (k + 1) s' h2 fun i s h2 h3 h4=>hb i s (by omega) (by omega) h4
   rwa [show k + 1 + m=k + (m + 1) from by omega] at this
  ·rw [h1];exact .inr ⟨b,rfl,h2⟩
theorem wGt {body:Nat->S->Option S} (I:Nat->S->Prop):∀ (m k:Nat) (s:S),I k s ->
  (∀ i s,k <= i->i < k + m->I i s->∃ s',body i s=some s'/\I (i + 1) s')->∃ s',forN' body m k s=some s'/\I (k + m) s'
 | 0,k,s,h,_=>⟨s,rfl,h⟩
 | m + 1,k,s,h,hb=>by
  simp only [forN']
  obtain ⟨s',h1,h2⟩:=hb k s (nP _) (by omega) h
  rw [h1]
  have:=wGt I m (k + 1) s' h2 fun i s h2 h3 h4=>hb i s (by omega) (by omega) h4
  rwa [show k + 1 + m=k + (m + 1) from by omega] at this
theorem wEN {body:Nat->S->Option (S ⊕ B)} {n:Nat} {s:S} (hn:n <= 9223372036854775807):wEs 0 (n:Int) body s=forN body n 0 s:=by
 unfold wEs
 rw [if_pos (by omega),show ((n:Int) - 0).toNat=n from by omega]
theorem wGD {body:Nat->S->Option S} {n:Nat} {s:S} (hn:n <= 9223372036854775807):wBc 0 (n:Int) body s=forN' body n 0 s:=by
 unfold wBc
 rw [if_pos (by omega),show ((n:Int) - 0).toNat=n from by omega]
def first (p:α->Bool):List α->Nat->Int
 | [],_=>-1
 | a :: l,k=>if p a then (k:Int) else first p l (k + 1)
theorem wFx (p:α->Bool):∀ (l:List α) (k:Nat),decide (0 <= first p l k)=l.any p
 | [],k=>by simp [first]
 | a :: l,k=>by
  rw [first,List.any_cons]
  by_cases h:p a
  ·simp [h]
  ·simp [h,wFx p l (k + 1)]
theorem wFM {R:Type} {l:List α} {f:α->Option Bool} {p:α->Bool} (hf:∀ a ∈ l,f a=some (p a)) (hn:l.length <= 9223372036854775807) (z:Int->R) :
  (jn (wEs 0 (↑l.length:Int) (fun k2 (_:Unit)=>(idx l (↑k2:Int)).bind fun x=>(f x).bind fun y=>if y=true then esc (some (z (↑k2:Int))) else some (.inl ())) ()) fun _=>some (z (-1)))=some (z (first p l 0)):=by
 rw [wEN hn]
 have key:∀ (m k:Nat),k + m=l.length->(jn (forN (fun k2 (_:Unit)=>(idx l (↑k2:Int)).bind fun x=>(f x).bind fun y=>if y=true then esc (some (z (↑k2:Int))) else some (.inl ())) m k ()) fun _=>some (z (-1)))=some (z (first p (l.drop k) k)):=by
  intro m
  induction m with
  | zero=>intro k hk;rw [nL (by omega)];rfl
  | succ m ih =>
   intro k hk
   have hlt:k < l.length:=by omega
   rw [nI hlt,first,forN,wHk,hM hlt]
   simp only [nj,hf _ (nU hlt)]
   by_cases h:p l[k]=true
   ·simp [h]
   ·simp only [h,if_false,Bool.false_eq_true]
    exact ih (k + 1) (by omega)
 exact key l.length 0 (by omega)
theorem wLF [DecidableEq α] {l m:List α} (hn:l.length <= 9223372036854775807) :
  (if (↑l.length:Int)=(↑m.length:Int) then jn (wEs 0 (↑l.length:Int) (fun k4 (_:Unit)=>(idx l (↑k4:Int)).bind fun x26=>(idx m (↑k4:Int)).bind fun x34=>if x26=x34 then some (.inl ()) else esc (some false)) ()) fun _=>some true else some false)=some (decide (l=m)):=by
 by_cases hl:l.length=m.length
 ·rw [if_pos (by omega),wEN hn]
  have key:∀ (n k:Nat),k + n=l.length->(jn (forN (fun k4 (_:Unit)=>(idx l (↑k4:Int)).bind fun x26=>(idx m (↑k4:Int)).bind fun x34=>if x26=x34 then some (.inl ()) else esc (some false)) n k ()) fun _=>some true)=some (decide (l.drop k=m.drop k)):=by
   intro n
   induction n with
   | zero=>intro k hk;rw [nL (by omega),nL (by omega)];simp [forN]
   | succ n ih =>
    intro k hk
    have h1:k < l.length:=by omega
    have h2:k < m.length:=by omega
    rw [nI h1,nI h2,forN,wHk,wHk,hM h1,hM h2]
    simp only [nj]
    by_cases h:l[k]=m[k]
    ·rw [if_pos h]
     simp only
     rw [ih (k + 1) (by omega)]
     congr 1
     exact decide_eq_decide.2 ⟨fun e=>by rw [e,h],fun e=>(nk e).2⟩
    ·rw [if_neg h]
     have:¬ l[k] :: l.drop (k + 1)=m[k] :: m.drop (k + 1):=fun e=>h (nk e).1
     simp only [wMn,wJj,this,decide_false]
  have:=key l.length 0 (by omega)
  simpa using this
 ·rw [if_neg (by omega)]
  have:l ≠ m:=fun e=>hl (by rw [e])
  simp [this]
theorem wDG {bytes:Nat} {l m:List α} (h:(l.length + m.length) * bytes <= 140737488355328):app bytes l m=some (l ++ m):=if_pos h
end Go.KL
namespace Go.KL
variable {S B R α β:Type}
theorem wIp {body:Nat->S->Option (S ⊕ B)} (s:Nat->S):∀ (m k:Nat),(∀ i,k <= i->i < k + m->body i (s i)=some (.inl (s (i + 1))))->forN body m k (s k)=some (.inl (s (k + m)))
 | 0,_,_=>rfl
 | m + 1,k,h=>by
  rw [forN,h k (nP _) (by omega)]
  have:=wIp s m (k + 1) fun i h1 h2=>h i (by omega) (by omega)
  rw [show k + 1 + m=k + (m + 1) by omega] at this
  exact this
theorem wJP {body:Nat->S->Option S} (s:Nat->S):∀ (m k:Nat),(∀ i,k <= i->i < k + m->body i (s i)=some (s (i + 1)))->forN' body m k (s k)=some (s (k + m))
 | 0,_,_=>rfl
 | m + 1,k,h=>by
  rw [forN',h k (nP _) (by omega)]
  have:=wJP s m (k + 1) fun i h1 h2=>h i (by omega) (by omega)
  rw [show k + 1 + m=k + (m + 1) by omega] at this
  exact this
theorem wCu {body:Nat->S->Option S} {n:Nat} {s0:S} (s:Nat->S) (h0:s 0=s0) (hn:n <= 9223372036854775807) (h:∀ i,i < n->body i (s i)=some (s (i + 1))):wBc 0 (n:Int) body s0=some (s n):=by
 rw [wGD hn,<- h0]
 have:=wJP s n 0 fun i _ hi=>h i (by omega)
 rwa [nM] at this
theorem wMv {body:Nat->S->Option (S ⊕ B)} {n:Nat} {s0:S} (s:Nat->S) (h0:s 0=s0) (hn:n <= 9223372036854775807) (h:∀ i,i < n->body i (s i)=some (.inl (s (i + 1)))):wEs 0 (n:Int) body s0=some (.inl (s n)):=by
 rw [wEN hn,<- h0]
 have:=wIp s n 0 fun i _ hi=>h i (by omega)
 rwa [nM] at this
theorem wEA {body:Nat->Unit->Option (Unit ⊕ B)} {n:Nat} (hn:n <= 9223372036854775807) (h:∀ i,i < n->body i ()=some (.inl ())):wEs 0 (n:Int) body ()=some (.inl ()):=wMv (fun _=>()) rfl hn h
theorem wAu [Inhabited α] {l:List α} {k:Nat} (h:k < l.length):idx l (k:Int)=some (gd l k):=by
 rw [wHk]
 exact wCX h
theorem wAe [Inhabited α] {l:List α} {k:Nat} (h:k < l.length):gd l k ∈ l:=nG (wCX h)
theorem wDq [Inhabited α] {l:List α} {k:Nat} (h:k < l.length):l.take (k + 1)=l.take k ++ [gd l k]:=by
 rw [List.take_add_one,wCX h]
 rfl
theorem wMJ [Inhabited α] {l:List α} {k:Nat} (h:k < l.length):l.drop k=gd l k :: l.drop (k + 1):=by
 have:=wCX h
 rw [hM h] at this
 rw [nI h,nE this]
theorem wGE [Inhabited α] {l m:List α} {k:Nat} (h:k < l.length):gd (l ++ m) k=gd l k:=by
 have h1:=wCX (xs:=l ++ m) (k:=k) (by rw [nQ];omega)
 rw [nJ h,wCX h] at h1
 exact (nE h1).symm
theorem wKe [Inhabited α] (l m:List α) (x:α):gd (l ++ x :: m) l.length=x:=by
 have h1:=wCX (xs:=l ++ x :: m) (k:=l.length) (by simp)
 rw [nR (nP _),Nat.sub_self] at h1
 exact (nE h1).symm
theorem wFE [Inhabited α] [Inhabited β] (f:α->β) {l:List α} {k:Nat} (h:k < l.length):gd (l.map f) k=f (gd l k):=by
 have h1:=wCX (xs:=l.map f) (k:=k) (by simpa using h)
 rw [nS,wCX h] at h1
 exact (nE h1).symm
theorem wNq (o:Option α):(o.bind fun x=>some x)=o:=by cases o <;> rfl
theorem wNY [Inhabited α] {l m:List α} (h:l.length=m.length) (hk:∀ k,k < l.length->gd l k=gd m k):l=m:=by
 apply List.ext_getElem?
 intro k
 rcases Nat.lt_or_ge k l.length with h1 | h1
 ·rw [wCX h1,wCX (by omega),hk k h1]
 ·rw [nY h1,nY (by omega)]
end Go.KL
namespace Go.KL
variable {S B α:Type}
theorem wIs {body:S->Option (S ⊕ B)} (I:Nat->S->Prop) (Z:B->Prop) (m:Nat) (step:∀ i s,i <= m->I i s->(i < m/\∃ s',body s=some (.inl s')/\I (i + 1) s') \/ ∃ b,body s=some (.inr b)/\Z b) {s0:S} (h0:I 0 s0) (hm:m < 1000000):∃ b,iter body big s0=some b/\Z b:=by
 have key:∀ (d i:Nat) (s:S),i + d=m->I i s->∀ F,d < F->∃ b,iter body F s=some b/\Z b:=by
  intro d
  induction d with
  | zero =>
   intro i s hi hI F hF
   obtain ⟨F,rfl⟩:∃ G,F=G + 1:=⟨F - 1,by omega⟩
   rcases step i s (by omega) hI with ⟨h,_⟩ | ⟨b,h1,h2⟩
   ·omega
   ·exact ⟨b,by rw [iter,h1],h2⟩
  | succ d ih =>
   intro i s hi hI F hF
   obtain ⟨F,rfl⟩:∃ G,F=G + 1:=⟨F - 1,by omega⟩
   rcases step i s (by omega) hI with ⟨_,s',h1,h2⟩ | ⟨b,h1,h2⟩
   ·obtain ⟨b,h3,h4⟩:=ih (i + 1) s' (by omega) h2 F (by omega)
    exact ⟨b,by rw [iter,h1];exact h3,h4⟩
   ·exact ⟨b,by rw [iter,h1],h2⟩
 exact key m 0 s0 (by omega) h0 big (by unfold big;omega)
theorem wKi [Inhabited α] {l:List α} {i k:Nat} {x:α} (hi:i < l.length) (hk:k < l.length):gd (l.set i x) k=if k=i then x else gd l k:=by
 have h1:=wCX (xs:=l.set i x) (k:=k) (by rw [List.length_set];exact hk)
 rw [List.getElem?_set] at h1
 by_cases e:i=k
 ·subst e
  rw [if_pos rfl,if_pos hi] at h1
  rw [if_pos rfl]
  exact (nE h1).symm
 ·rw [if_neg e,wCX hk] at h1
  rw [if_neg (fun h=>e h.symm)]
  exact (nE h1).symm
theorem wCk [Inhabited α] {l:List α} {k:Nat} (h:k < l.length):gd l k=l[k]:=by
 have:=wCX h
 rw [hM h] at this
 exact (nE this).symm
theorem wLJ [DecidableEq α] {l:List α} (hn:l.length <= 9223372036854775807) :
  (if (↑l.length:Int)=(↑l.length:Int) then jn (wEs 0 (↑l.length:Int) (fun k4 (_:Unit)=>(idx l (↑k4:Int)).bind fun x26=>(idx l (↑k4:Int)).bind fun x34=>if x26=x34 then some (.inl ()) else esc (some false)) ()) fun _=>some true else some false)=some true:=by
 rw [wLF hn]
 simp
end Go.KL
