import Derived.Test.YtadbejldcmkokaaGreatA1
import Derived.Lib.AppendZeros
import Derived.Test.YtadbejldcmkokaaGreatA0
set_option linter.all false
open Option renaming bind_some->nA,rec->kP
open Bool renaming and_eq_true->nB,false_eq_true->nE,or_eq_true->na,false_or->ng,not_eq_true'->ni,not_true->np,and_true->ko
open Nat renaming eq_of_beq_eq_true->nD,beq->nG,le_refl->nP,le_of_ble_eq_true->nT,ble->nb,blt_eq->nj,zero_add->nm,le_of_mul_le_mul_right->nw,le_trans->kC,blt->kJ,ble_eq_true_of_le->kM,ble_eq->kV,le_mul_of_pos_right->kX,add_mul->kc,mul_le_mul_right->kh,beq_eq->ki,lt_or_ge->kv,zero_le->aF
open List renaming all_eq_true->nH,length_append->nI,replicate->nJ,map_cons->nL,mem_append->nM,length_take->nN,range->nO,getElem?_eq_getElem->nS,length_singleton->nU,pairwise_cons->nV,mem_cons->nW,length_cons->nY,mem_singleton->nZ,mem_map->nc,append_assoc->nh,mem_append_left->nl,eq_nil_of_length_eq_zero->nt,mem_append_right->nu,set->nv,getElem?_append_right->ny,map_congr_left->nz,drop_eq_getElem_cons->kA,getElem?_append_left->kB,getElem?_take->kD,getElem?_map->kE,all_cons->kG,cons_append->kH,getElem?_eq_none->kK,nil_append->kO,mem_range->kQ,length->kR,getD_eq_getElem?_getD->kS,length_set->kZ,length_map->ka,length_nil->kb,drop_eq_nil_of_le->ke,sum_replicate_nat->kf,pairwise_append->kj,range_eq_range'->kl,any_cons->km,map_eq_nil_iff->kr,length_flatMap->ku,ext_getElem?->aA,getElem?_set->aB,length_range->aC,flatMap_cons->aD
open List.cons renaming injEq->nK
open Int renaming toNat_of_nonneg->nQ,toNat_natCast->nR,sub_add_cancel->nr,tmod_eq_emod_of_nonneg->kU,add_comm->kW,ofNat->kY,lt_or_le->kx
open Array renaming ext'->nX,getElem?_toList->kg,toList_append->kq,size_append->ky
open Option.some renaming inj->nq,injEq->kz
open Go.Value renaming int->aG
open Classical renaming em->aH
namespace Go.KX
noncomputable section
open Go.RowKit Go.KL
section
variable {C:Chk} {P:Program} {μ μ':Mu} {w w':World} {h h':AH} {σ:Env} {σA:Tr AV} {t e:TypeId} {o:Oper}
theorem wHJ {b:Pos} {off:Nat} {vs:List AV} {VS:List Value} {c:Cl} (hr:wLm h b off vs=some h') (S:Sim C P μ h w) (hv:RvL μ vs VS) (h1:∀ v ∈ VS,one v=true) (hc:μ b=some c) :
  ∃ w',(storeCells ⟨c.1,off,none⟩ VS).run P w=.ok () w'/\Sim C P μ h' w'/\Ext μ h.fl.nat w μ w'/\h'.fl=h.fl:=by
 unfold wLm at hr
 split at hr
 ·rename_i T l hB
  split at hr
  ·rename_i l' hl
   obtain ⟨c',g1,vs0,g2,g3⟩:=S.at_ b _ hB
   rw [hc] at g1;cases g1
   obtain ⟨k1,k2⟩:=wJs hl g2 hv
   obtain ⟨w',q1,q2,q3,q4⟩:=wCv (P:=P) off VS 0 vs0 w g3 k1 h1
   obtain ⟨s1,s2,s3⟩:=S.put hr hB trivial hc q3 (B':=.cells T l') ⟨_,k2,q2⟩
   exact ⟨w',q1,s1,s2,s3⟩
  ·cases hr
 ·rename_i T sz l hB
  split at hr
  ·rename_i l' hl
   obtain ⟨c',g1,vs0,g2,g3⟩:=S.at_ b _ hB
   rw [hc] at g1;cases g1
   obtain ⟨k1,k2⟩:=wJs hl g2 hv
   obtain ⟨cur,r1,r2,r3,r4,r5⟩:=RowAt.cells g3
   have hB':Blk w c.1 T cur.toList:=by unfold Blk;rw [r1]
   have hcl:vs0.length <= cur.toList.length:=by rw [<- r5];simp;omega
   obtain ⟨w',q1,q2,q3,q4⟩:=wCv (P:=P) off VS 0 cur.toList w hB' (by omega) h1
   obtain ⟨s1,s2,s3⟩:=S.put hr hB trivial hc q3 (B':=.row T sz l') ⟨_,k2,.inr ⟨c.1,(wFA cur.toList (off + 0) VS).toArray,rfl,q2,by rw [wCF];exact r2,r3,by simp [wCF,r4],by
    rw [wCF,Nat.add_zero]
    show (wFA cur.toList off VS).take vs0.length=_
    rw [wIG _ _ _ _ k1,r5]⟩⟩
   exact ⟨w',q1,s1,s2,s3⟩
  ·cases hr
 ·cases hr
def c_st (P:Program) (n:Nat) (x y:AOd):Op->Bool
 | .store t x' y'=>szT P t n && (wCl x x' && wCl y y')
 | _=>false
theorem u_st {n:Nat} {x y:AOd} {op:Op} (hc:c_st P n x y op=true):OkU C P op (o_st n x y):=by
 intro σA h v h' hr μ σ w hE S o ho
 unfold c_st at hc
 split at hc
 ·rename_i t x' y'
  simp only [nB] at hc
  obtain ⟨c1,c2,c3⟩:=hc
  unfold o_st at hr
  split at hr
  ·rename_i b off hb
   split at hr
   ·rename_i hk
    simp only [nB] at hk
    split at hr
    ·rename_i h1 hs
     cases hr
     have g:=wAW c2 hE;rw [hb] at g
     obtain ⟨c,g1,g2⟩:=g
     obtain ⟨VS,v1,v2⟩:=wJt (wAW c3 hE)
     obtain ⟨w',q1,q2,q3,q4⟩:=wHJ hs S v1 (wFi v1 hk.2) g1
     have hn:=nD hk.1
     have hlen:VS.length=n:=by rw [wEu v1,<- wGW,hn]
     refine ⟨μ,w',q3,q2,rfl,q4,by rw [ho];rfl,?_⟩
     simp [execOp,ho,Instr.storeAt,g2,Instr.sureAddr,storeVar,v2,wFQ c1,hlen,q1]
    ·cases hr
   ·cases hr
  ·cases hr
 ·cases hc
theorem wJy {sz m:Nat} {a:AV} {l:List AV} {y:Value} (hr:slice h sz a=some (m,l)) (S:Sim C P μ h w) (hy:Rv μ a y) :
  ∃ A c VS,y=.slice A m c/\RvL μ l VS/\VS.length=m * sz/\(m=0 \/ ∃ ad,A=some ad/\∀ j u,VS[j]?=some u->w.cell? (ad.add j)=some u):=by
 have key:∀ (b:Pos) (off m:Nat) (c:Cl) (l0 r:List AV),μ b=some c->wGA h b=some l0->sub l0 off (m * sz)=some r->∃ VS,RvL μ r VS/\VS.length=m * sz/\∀ j u,VS[j]?=some u->w.cell? ((⟨c.1,off,none⟩:Addr).add j)=some u:=by
  intro b off m c l0 r hc hl hs
  obtain ⟨c',vs,h1,h2,h3⟩:=wGN hl S
  rw [hc] at h1;cases h1
  obtain ⟨g1,g2⟩:=wGi hs h2
  exact ⟨_,g1,by simp;omega,fun j u hu=>by rw [wGj];exact h3 w (Keep.refl w _) _ _ (wFy rfl j u hu)⟩
 unfold slice at hr
 split at hr
 ·cases hr
  have hy:y=.slice none 0 0:=hy
  exact ⟨none,0,[],hy,rfl,by simp,.inl rfl⟩
 ·cases hr
  obtain ⟨d,_,q,rfl⟩:=hy
  exact ⟨_,_,[],rfl,rfl,by simp,.inl rfl⟩
 ·split at hr
  ·rename_i l0 hl
   split at hr
   ·rename_i r hs
    cases hr
    obtain ⟨d,h1,_,rfl⟩:=hy
    obtain ⟨VS,v1,v2,v3⟩:=key _ _ _ _ _ _ h1 hl hs
    exact ⟨_,_,VS,rfl,v1,v2,.inr ⟨_,rfl,v3⟩⟩
   ·cases hr
  ·cases hr
 ·split at hr
  ·rename_i l0 hl
   split at hr
   ·rename_i r hs
    cases hr
    obtain ⟨d,h1,_,rfl⟩:=hy
    obtain ⟨VS,v1,v2,v3⟩:=key _ _ _ _ _ _ h1 hl hs
    exact ⟨_,_,VS,rfl,v1,v2,.inr ⟨_,rfl,v3⟩⟩
   ·cases hr
  ·cases hr
 ·cases hr
theorem wIV {A A2:Option Addr} {n c c2 ty:Nat} {inf:TypeInfo} (ht:P.underlying t=some (.slice e)) (hi:P.info? e=some inf) (hnc:n <= c):(Builtin.append_ #[t,t] ty #[.slice A n c,.slice A2 0 c2]).run P w=.ok (.slice A n c) w:=by
 have hs:∀ w,(sizeOf e).run P w=.ok inf.size w:=fun w=>by simp [sizeOf,typeInfo,hi]
 cases A <;> cases A2 <;> simp [Builtin.append_,wBY ht,hs,Builtin.lenOf,Builtin.firstCells,hnc,storeCells,loadCells,loadCellsFrom]
theorem wPJ {T sz c:Nat} {l:List AV} {cs:List Value} {cur:Array Value} (S:Sim C P μ h w) (K:Keep w w' Non) (hl:RvL μ l cs) (hn:w'.heap[w.heap.size]?=some (.cells cur T (0,0))) (h1:cs.length <= c * sz) (h2:c <= maxLen) (h3:cur.size=c * sz) (h4:cur.toList.take cs.length=cs) :
  ∃ μ',Ext μ h.fl.nat w μ' w'/\Sim C P μ' (h.push (.row T sz l)) w'/\(h.push (.row T sz l)).fl=h.fl/\μ' h.nx=some ⟨w.heap.size,c,g0⟩:=by
 have hle:=Mu.add_le (c:=⟨w.heap.size,c,g0⟩) (S.nx h.nx (nP _))
 obtain ⟨q1,q2,q3,q4⟩:=S.push (w':=w') (c:=⟨w.heap.size,c,g0⟩) (B:=.row T sz l) K (nP _) (wAr hn) ⟨cs,hl.mono hle,.inr ⟨_,cur,rfl,hn,h1,h2,h3,h4⟩⟩
 exact ⟨_,q2,q1,q3,q4⟩
def wQt (P:Program) (T sz by_:Nat) (x y:AOd):Op->Bool
 | .call c=>match c.callee with
  | .builtin b=>(b == .append) && (match c.args.toList,c.argTypes.toList with
   | [x',y'],[t,t']=>nG t t' && (wFp P t (fun d=>match d with | .slice e=>nG e T | _=>false) && (wCl x x' && (wCl y y' && (szT P T sz && (byT P T by_ && (match P.info? T with
    | some i=>match i.zero with | some v=>nG v.cells.size sz && (kJ 0 sz && kJ 0 by_) | none=>false
    | none=>false))))))
   | _,_=>false)
  | _=>false
 | _=>false
theorem wQu {T sz by_:Nat} {x y:AOd} {op:Op} (hc:wQt P T sz by_ x y op=true) :
  ∃ x' y' t i z,op=.call { callee:=.builtin .append,args:=#[x',y'],argTypes:=#[t,t] }/\P.underlying t=some (.slice T)/\wCl x x'=true/\wCl y y'=true/\P.info? T=some i/\i.zero=some z/\i.size=sz/\i.bytes=by_/\z.cells.size=sz/\0 < sz/\0 < by_:=by
 unfold wQt at hc
 split at hc
 ·rename_i c
  obtain ⟨ce,args,tys⟩:=c
  simp only at hc
  split at hc
  ·rename_i b
   simp only [nB,beq_iff_eq] at hc
   obtain ⟨rfl,h2⟩:=hc
   split at h2
   ·rename_i x' y' t t' h3 h4
    simp only [nB] at h2
    obtain ⟨a1,a2,a3,a4,a5,a6,a7⟩:=h2
    have e:=nD a1
    subst e
    obtain ⟨d,d1,d2⟩:=wBL a2
    split at d2 <;> first | (cases d2;done) | skip
    have e:=nD d2
    subst e
    obtain ⟨i,i1,i2⟩:=wJu a5
    obtain ⟨j,j1,j2⟩:=wJv a6
    rw [i1] at j1;cases j1
    rw [i1] at a7
    simp only at a7
    split at a7
    ·rename_i z hz
     simp only [nB,nj] at a7
     refine ⟨x',y',t,i,z,?_,d1,a3,a4,i1,hz,i2,j2,nD a7.1,a7.2.1,a7.2.2⟩
     congr 2
     ·exact nX (by simpa using h3)
     ·exact nX (by simpa using h4)
    ·cases a7
   ·cases h2
  ·cases hc
 ·cases hc
theorem wVT (v:Value) (h1:one v=true):v.oneCell'=true:=by cases v <;> first | rfl | cases h1
theorem e_app {T sz by_:Nat} {x y:AOd} {op:Op} (hc:wQt P T sz by_ x y op=true):OkE C P op (wQk T sz by_ x y):=by
 intro σA h v h' hr μ σ w hE S o ho
 obtain ⟨x',y',t,i,z,rfl,ht,c1,c2,hi,hz,i2,j2,hzs,hsz,hby⟩:=wQu hc
 unfold wQk at hr
 split at hr
 ·rename_i m news hs
  obtain ⟨hones,hr'⟩:=wCA hr
  clear hr;have hr:=hr';clear hr'
  obtain ⟨A2,cc2,NS,e2,n1,n2,n3⟩:=wJy hs S (wAW c2 hE)
  have hx:=wAW c1 hE
  have h1:∀ u ∈ NS,u.oneCell'=true:=fun u hu=>wVT u (wFi n1 hones u hu)
  have fin:∀ {μ':Mu} {w':World} {cv:Value},Ext μ h.fl.nat w μ' w'->Sim C P μ' h' w'->Rv μ' v cv->h'.fl=h.fl->(Builtin.append_ #[t,t] o.type #[ev σ x',ev σ y']).run P w=.ok cv w' ->
    ∃ μ' w' cv,Ext μ h.fl.nat w μ' w'/\Sim C P μ' h' w'/\Rv μ' v cv/\h'.fl=h.fl/\Runs P σ w o cv w':=fun a b c d f =>
   ⟨_,_,_,a,b,c,d,by rw [ho];rfl,by simp [execOp,ho,resolve,invoke,builtin,f]⟩
  unfold app at hr
  split at hr
  ·have zero:∀ {A:Option Addr} {n c:Nat},ev σ x'=.slice A n c->n <= c->Rv μ v (.slice A n c)->h'=h->∃ μ' w' cv,Ext μ h.fl.nat w μ' w'/\Sim C P μ' h' w'/\Rv μ' v cv/\h'.fl=h.fl/\Runs P σ w o cv w':=by
    intro A n c hA hnc hv hh
    subst hh
    exact fin (Ext.refl μ _ w) S hv rfl (by rw [hA,e2];exact wIV ht hi hnc)
   split at hr <;> cases hr <;> rename_i hb <;> rw [hb] at hx
   ·have g:ev σ x'=.slice none 0 0:=hx
    exact zero g (nP _) rfl rfl
   ·obtain ⟨d,g1,g2,g3⟩:=hx
    exact zero g3 g2 ⟨d,g1,g2,rfl⟩ rfl
   ·obtain ⟨d,g1,g2,g3⟩:=hx
    exact zero g3 (by omega) ⟨d,g1,g2,rfl⟩ rfl
  ·rename_i m
   obtain ⟨ad,rfl,hcell⟩:∃ ad,A2=some ad/\∀ j u,NS[j]?=some u->w.cell? (ad.add j)=some u:=by
    rcases n3 with h0 | h0
    ·cases h0
    ·exact h0
   have maxb:(140737488355328:Nat) <= maxLen:=by decide
   have lenb:∀ n:Nat,n * by_ <= 140737488355328->n <= 140737488355328:=fun n hn=>kC (kX _ hby) hn
   split at hr
   ·rename_i hb
    rw [hb] at hx
    have hx:ev σ x'=.slice none 0 0:=hx
    obtain ⟨hble,hr'⟩:=wCA hr
    clear hr;have hr:=hr';clear hr'
    cases hr
    have hble:=nT hble
    obtain ⟨A',c',w',r1,r2,r3,r4⟩:=wEa (P:=P) (w:=w) (A:=none) (c:=0) (n:=0) (cs:=[]) (ty:=o.type) (c2:=cc2) ht hi hz i2 hzs hsz (.inl ⟨rfl,rfl,rfl⟩) (by simp) n2 (.inr ⟨ad,rfl,hcell⟩) h1 (by rw [j2,nm];exact hble) (by omega)
    rcases r2 with ⟨_,_,q⟩ | ⟨b,cur,rfl,q1,q2,q3,q4,q5⟩
    ·exfalso
     have:([] ++ NS).length=0:=by rw [q];rfl
     rw [kO,n2] at this
     have:=Nat.mul_pos (Nat.succ_pos m) hsz
     omega
    ·have hb:w.heap.size <= b:=by
      rcases r4 b rfl with q | q
      ·cases q
      ·exact q
     have K:Keep w w' Non:=r3.weak fun i _ q=>by cases q
     rw [kO] at q2 q5
     have hle:=Mu.add_le (c:=⟨b,c',g0⟩) (S.nx h.nx (nP _))
     obtain ⟨s1,s2,s3,s4⟩:=S.push (w':=w') (c:=⟨b,c',g0⟩) (B:=.row T sz news) K hb (wAr q1) ⟨NS,n1.mono hle,.inr ⟨_,cur,rfl,q1,q2,q3,q4,q5⟩⟩
     refine fin s2 s1 ⟨_,s4,?_,?_⟩ s3 (by rw [hx,e2];exact r1)
     ·rw [n2] at q2
      have:=nw q2 hsz
      simpa using this
     ·simp
   ·rename_i b off n c hb
    rw [hb] at hx
    obtain ⟨d,g1,g2,g3⟩:=hx
    split at hr
    ·rename_i hle
     have hle:=nT hle
     split at hr
     ·rename_i h1' hset
      cases hr
      obtain ⟨w',q1,q2,q3,q4⟩:=wHJ hset S n1 (wFi n1 hones) g1
      refine fin q3 q2 ⟨d,g1,hle,rfl⟩ q4 ?_
      rw [g3,e2]
      have hf:=run_firstCells_some (P:=P) w i.size (m + 1) ad (m + 1) cc2 NS (by rw [i2];exact n2) hcell
      rw [i2] at hf
      simp [Builtin.append_,wBY ht,sizeOf,typeInfo,hi,Builtin.lenOf,hle,hf,wGj,i2,q1]
     ·cases hr
    ·rename_i hlt
     obtain ⟨hble,hr'⟩:=wCA hr
     clear hr;have hr:=hr';clear hr'
     have hble:=nT hble
     split at hr
     ·rename_i nn olds wHo
      cases hr
      have hgt:c < n + (m + 1):=by
       rcases kv c (n + (m + 1)) with q | q
       ·exact q
       ·have q':nb (n + (m + 1)) c=true:=by rw [kV];exact q
        rw [q'] at hlt;cases hlt
      obtain ⟨A1,cc1,OS,k1,k2,k3,k4⟩:=wJy wHo S (show Rv μ (.sl b off n c) _ from ⟨d,g1,g2,rfl⟩)
      cases k1
      have hlen:=lenb _ hble
      have olds':∀ j v,OS[j]?=some v->w.cell? ((⟨d.1,off,none⟩:Addr).add j)=some v:=by
       rcases k4 with q | ⟨ad',q1,q2⟩
       ·intro j v hv
        have hnil:OS=[]:=nt (by rw [k3,q];simp)
        rw [hnil] at hv
        simp at hv
       ·cases q1;exact q2
      have hr:=run_append_grow (P:=P) w t o.type T i z ht hi hz ⟨d.1,off,none⟩ n c OS (by rw [i2];exact k3) olds' ad (m + 1) cc2 NS (by rw [i2];exact n2) hcell hgt (by omega) (growslice_fits hgt (by rw [j2];exact hble))
      have hge:=grownCap_ge w (n + (m + 1)) c T
      have hcm:grownCap w (n + (m + 1)) c T <= maxLen:=grownCap_le_maxLen w (n + (m + 1)) c T (by omega)
      have hlen2:(OS ++ NS).length=(n + (m + 1)) * sz:=by rw [nI,k3,n2,kc]
      obtain ⟨μ',s1,s2,s3,s4⟩:=wPJ (T:=T) (sz:=sz) (c:=grownCap w (n + (m + 1)) c T) (w':=w.drew.alloc (.cells (OS.toArray ++ NS.toArray ++ Builtin.zeroCells z.cells (grownCap w (n + (m + 1)) c T - (n + (m + 1)))) T)) (cur:=OS.toArray ++ NS.toArray ++ Builtin.zeroCells z.cells (grownCap w (n + (m + 1)) c T - (n + (m + 1)))) S
       ((Keep.drew w).non (wBB w.drew _)) (wFh k2 n1) (heap_alloc_new w.drew _) (by rw [hlen2];exact kh _ hge) hcm
       (by
        simp only [ky,List.size_toArray,size_zeroCells,hzs,k3,n2,<- kc]
        congr 1
        omega)
       (by simp only [kq,nh];rw [<- nh];exact List.take_left)
      refine fin s1 s2 ⟨_,s4,?_,?_⟩ s3 (by rw [g3,e2];exact hr)
      ·simpa using hge
      ·simp
     ·cases hr
   ·rename_i b eo co n hb
    rw [hb] at hx
    obtain ⟨d,g1,g2,g3⟩:=hx
    split at hr
    ·rename_i T' sz' l hB
     split at hr
     ·rename_i hin
      simp only [nB] at hin
      obtain ⟨p1,p2,p3,p4⟩:=hin
      have p1:=nT p1
      have p2:=nD p2
      have p3:=nD p3
      have p4:=nD p4
      subst p2 p3 p4
      split at hr
      ·rename_i h1' hset
       cases hr
       obtain ⟨d',k1,OS,k2,k3⟩:=S.at_ b _ hB
       rw [g1] at k1;cases k1
       obtain ⟨cur,r1,r2,_⟩:=RowAt.cells k3
       have hle:n + (m + 1) <= d.2:=by
        rw [wGW,<- wEu k2] at p1
        exact nw (kC p1 r2) hsz
       obtain ⟨w',q1,q2,q3,q4⟩:=wHJ hset S n1 (wFi n1 hones) g1
       refine fin q3 q2 ⟨d,g1,by omega,rfl⟩ q4 ?_
       rw [g3,e2]
       have hf:=run_firstCells_some (P:=P) w i.size (m + 1) ad (m + 1) cc2 NS (by rw [i2];exact n2) hcell
       rw [i2] at hf
       simp [Builtin.append_,wBY ht,sizeOf,typeInfo,hi,Builtin.lenOf,hle,hf,wGj,i2,q1]
      ·cases hr
     obtain ⟨hcond,hr'⟩:=wCA hr
     clear hr;have hr:=hr';clear hr'
     simp only [nB] at hcond
     obtain ⟨⟨⟨⟨⟨q1,q2⟩,q3⟩,q4⟩,q5⟩,q6⟩:=hcond
     have q1:=nD q1
     have q2:=nD q2
     have q3:=nD q3
     have q4:=nD q4
     have q5:=nD q5
     have hble:=nT q6
     subst q1 q2 q3 q4
     split at hr
     ·rename_i h1' hput
      cases hr
      obtain ⟨d',k1,OS,k2,k3⟩:=S.at_ b _ hB
      rw [g1] at k1;cases k1
      have hol:OS.length=n * sz:=by rw [wEu k2,<- wGW,<- q5]
      obtain ⟨A',c',w',r1,r2,r3,r4⟩:=wEa (P:=P) (w:=w) (A:=some ⟨d.1,0,none⟩) (c:=d.2) (n:=n) (cs:=OS) (ty:=o.type) (c2:=cc2) ht hi hz i2 hzs hsz k3 hol n2 (.inr ⟨ad,rfl,hcell⟩) h1 (by rw [j2];exact hble) (by omega)
      rcases r2 with ⟨_,_,q⟩ | ⟨b',cur,rfl,p1,p2,p3,p4,p5⟩
      ·exfalso
       have:(OS ++ NS).length=0:=by rw [q];rfl
       rw [nI,n2] at this
       have:=Nat.mul_pos (Nat.succ_pos m) hsz
       omega
      ·have hb':b'=d.1 \/ w.heap.size <= b':=by
        rcases r4 b' rfl with q | q
        ·cases q;exact .inl rfl
        ·exact .inr q
       have K:Keep w w' (·=d.1):=r3.weak fun i _ q=>by cases q;rfl
       have hle:=Mu.add_le (c:=⟨b',c',g0⟩) (S.nx h.nx (nP _))
       have hnx:h.nx=h.nx:=rfl
       obtain ⟨s1,s2,s3,s4⟩:=S.move (w':=w') (d:=⟨b',c',g0⟩) (B':=.row T sz (l ++ news)) hput hB trivial g1 K hb' (wAr p1) ⟨OS ++ NS,(wFh k2 n1).mono hle,.inr ⟨_,cur,rfl,p1,p2,p3,p4,p5⟩⟩
       refine fin s2 s1 ⟨_,s4,?_,?_⟩ s3 (by rw [g3,e2];simpa using r1)
       ·rw [nI,hol,n2,<- kc] at p2
        have:=nw p2 hsz
        simpa using this
       ·simp
     ·cases hr
    ·cases hr
   ·cases hr
 ·cases hr
def wTR (P:Program) (sz:Nat) (x y:AOd):Op->Bool
 | .call c=>match c.callee with
  | .builtin b=>(b == .copy) && (match c.args.toList,c.argTypes.toList with
   | [x',y'],t :: _=>wFp P t (fun d=>match d with | .slice e=>szT P e sz | _=>false) && (wCl x x' && wCl y y')
   | _,_=>false)
  | _=>false
 | _=>false
theorem e_cpy {sz:Nat} {x y:AOd} {op:Op} (hc:wTR P sz x y op=true):OkE C P op (wQl sz x y):=by
 intro σA h v h' hr μ σ w hE S o ho
 unfold wTR at hc
 split at hc
 ·rename_i c
  obtain ⟨ce,args,tys⟩:=c
  simp only at hc
  split at hc
  ·rename_i b
   simp only [nB,beq_iff_eq] at hc
   obtain ⟨rfl,h2⟩:=hc
   split at h2
   ·rename_i x' y' t ts h3 h4
    simp only [nB] at h2
    obtain ⟨a1,a2,a3⟩:=h2
    obtain ⟨d,d1,d2⟩:=wBL a1
    split at d2 <;> first | (cases d2;done) | skip
    rename_i e
    have ea:args=#[x',y']:=nX (by simpa using h3)
    have et:tys[0]?=some t:=by rw [<- kg,h4];rfl
    unfold wQl at hr
    split at hr
    ·rename_i b off n cc m news hx hs
     split at hr
     ·rename_i vs hsub
      obtain ⟨hones,hr'⟩:=wCA hr
      clear hr;have hr:=hr';clear hr'
      split at hr
      ·rename_i h1' hset
       cases hr
       have g:=wAW a2 hE;rw [hx] at g
       obtain ⟨c0,g1,_,g3⟩:=g
       obtain ⟨A2,cc2,NS,e2,n1,n2,n3⟩:=wJy hs S (wAW a3 hE)
       generalize hk:(if nb m n=true then m else n)=k at hsub ⊢
       have hmin:Nat.min m n=k:=by
        rw [<- hk]
        by_cases q:m <= n
        ·rw [if_pos (by rw [kV];exact q)];exact Nat.min_eq_left q
        ·rw [if_neg (by rw [kV];exact q)];exact Nat.min_eq_right (by omega)
       obtain ⟨k1,k2⟩:=wGi hsub n1
       rw [List.drop_zero] at k1
       obtain ⟨w',q1,q2,q3,q4⟩:=wHJ hset S k1 (wFi k1 hones) g1
       refine ⟨μ,w',_,q3,q2,rfl,q4,by rw [ho];rfl,?_⟩
       have hf:∀ (w1:World),w1=w->(Builtin.firstCells sz k (.slice A2 m cc2)).run P w1=.ok (NS.take (k * sz)).toArray w1:=by
        intro w1 hw1
        subst hw1
        cases A2 with
        | none =>
         have hm:m=0:=by
          rcases n3 with q | ⟨_,q,_⟩
          ·exact q
          ·cases q
         have hN:NS=[]:=nt (by rw [n2,hm];simp)
         subst hN
         simp [Builtin.firstCells]
        | some ad =>
         have hcell:∀ j u,(NS.take (k * sz))[j]?=some u->w1.cell? (ad.add j)=some u:=by
          intro j u hu
          rw [kD] at hu
          split at hu
          ·rcases n3 with q | ⟨ad',q,q'⟩
           ·have hN:NS=[]:=nt (by rw [n2,q];simp)
            subst hN;simp at hu
           ·cases q;exact q' j u hu
          ·cases hu
         exact run_firstCells_some (P:=P) w1 sz k ad m cc2 (NS.take (k * sz)) (by rw [nN];omega) hcell
       have hs2:=wFQ d2
       simp [execOp,ho,ea,et,resolve,invoke,builtin,Builtin.copy_,wBY d1,g3,e2,Builtin.lenOf,hmin,hs2,hf w rfl,q1,goInt,Result.andThen]
      ·cases hr
     ·cases hr
    ·cases hr
   ·cases h2
  ·cases hc
 ·cases hc
def wTS (P:Program) (z:List AV) (x:AOd):Op->Bool
 | .call c=>match c.callee with
  | .builtin b=>(b == .clear) && (match c.args.toList,c.argTypes.toList with
   | [x'],[t]=>wFp P t (fun d=>match d with | .slice e=>zT P e z | _=>false) && wCl x x'
   | _,_=>false)
  | _=>false
 | _=>false
theorem wFU {zc:Array Value} (c:Nat):(Builtin.zeroCells zc c).toList=(nJ c zc.toList).flatten:=by
 have:=wIU (zc:=zc) (n:=0) c
 simp only [or_false] at this
 exact this
def wTT (P:Program) (T sz by_:Nat) (z:List AV) (x y:AOd):Op->Bool
 | .call c=>match c.callee with
  | .builtin b=>(b == .append) && (match c.args.toList,c.argTypes.toList with
   | [x',y'],[t,t']=>wFp P t (fun d=>match d with | .slice e=>nG e T | _=>false) && (wFp P t' (fun d=>match d with | .int _=>true | _=>false) && (wCl x x' && (wCl y y' && (szT P T sz && (byT P T by_ && (zT P T z && (nG (len z) sz && (kJ 0 sz && kJ 0 by_))))))))
   | _,_=>false)
  | _=>false
 | _=>false
theorem e_apz {T sz by_:Nat} {z:List AV} {x y:AOd} {op:Op} (hc:wTT P T sz by_ z x y op=true):OkE C P op (wQn T sz by_ z x y):=by
 intro σA h v h' hr μ σ w hE S o ho
 unfold wTT at hc
 split at hc <;> first | (cases hc;done) | skip
 rename_i c
 obtain ⟨ce,args,tys⟩:=c
 simp only at hc
 split at hc <;> first | (cases hc;done) | skip
 rename_i b
 simp only [nB,beq_iff_eq] at hc
 obtain ⟨rfl,h2⟩:=hc
 split at h2 <;> first | (cases h2;done) | skip
 rename_i x' y' t t' h3 h4
 simp only [nB] at h2
 obtain ⟨a1,a2,a3,a4,a5,a6,a7,a8,a9,a10⟩:=h2
 have hargs:args=#[x',y']:=nX (by simpa using h3)
 have htys:tys=#[t,t']:=nX (by simpa using h4)
 subst hargs htys
 obtain ⟨d,d1,d2⟩:=wBL a1
 split at d2 <;> first | (cases d2;done) | skip
 have e:=nD d2
 subst e
 rename_i e
 obtain ⟨dn,n1,n2⟩:=wBL a2
 split at n2 <;> first | (cases n2;done) | skip
 rename_i kn
 obtain ⟨i,i1,i2⟩:=wJu a5
 obtain ⟨i',j1,j2⟩:=wJv a6
 obtain ⟨i'',zv,k1,k2,k3⟩:=wIQ a7
 rw [i1] at j1 k1;cases j1;cases k1
 have hz:=nD a8
 have hsz:0 < sz:=by simpa [nj] using a9
 have hx:=wAW a3 hE
 have hy:=wAW a4 hE
 have fin:∀ {μ':Mu} {w':World} {cv:Value},Ext μ h.fl.nat w μ' w'->Sim C P μ' h' w'->Rv μ' v cv->h'.fl=h.fl->(Builtin.append_ #[t,t'] o.type #[ev σ x',ev σ y']).run P w=.ok cv w' ->
   ∃ μ' w' cv,Ext μ h.fl.nat w μ' w'/\Sim C P μ' h' w'/\Rv μ' v cv/\h'.fl=h.fl/\Runs P σ w o cv w':=fun a b c d f =>
  ⟨_,_,_,a,b,c,d,by rw [ho];rfl,by simp [execOp,ho,resolve,invoke,builtin,f]⟩
 have zlen:zv.cells.size=sz:=by rw [<- hz,wGW,<- wEu (k3 μ)];simp
 unfold wQn at hr
 split at hr
 ·rename_i nn hxs hn
  rw [hxs] at hx
  rw [wDY hn] at hy
  have hx:ev σ x'=.slice none 0 0:=hx
  have hy:ev σ y'=.int .i64 (nn:Int):=hy
  cases nn with
  | zero =>
   cases hr
   refine fin (Ext.refl μ _ w) S rfl rfl ?_
   rw [hx,hy]
   simp [Builtin.append_,run_underlying d1,run_underlying n1,sizeOf,typeInfo,i1,asInt,asIntOf,IntKind.wrap_i64]
  | succ m =>
   obtain ⟨hble,hr⟩:=wCA hr
   have hble:=nT hble
   cases hr
   have hby:0 < by_:=by simpa [nj] using a10
   have hnb:m + 1 <= 140737488355328:=kC (kX _ hby) hble
   have hrun:=Go.Lib.run_append_nil_zeros (P:=P) w t t' o.type e i zv .i64 kn d1 n1 i1 k2 (m + 1) (by omega) (by rw [i2];exact hsz) (by omega) (by rw [j2];omega)
   have hge:=grownCap_ge w (m + 1) 0 e
   have maxb:(140737488355328:Nat) <= maxLen:=by decide
   have hcm:grownCap w (m + 1) 0 e <= maxLen:=grownCap_le_maxLen w (m + 1) 0 e (by omega)
   have hcs:((nJ (m + 1) zv.cells.toList).flatten).length=(m + 1) * sz:=by rw [<- wFU];simp [size_zeroCells,zlen]
   obtain ⟨μ',s1,s2,s3,s4⟩:=wPJ (T:=e) (sz:=sz) (c:=grownCap w (m + 1) 0 e) (w':=w.drew.alloc (.cells (Builtin.zeroCells zv.cells (m + 1) ++ Builtin.zeroCells zv.cells (grownCap w (m + 1) 0 e - (m + 1))) e)) (cur:=Builtin.zeroCells zv.cells (m + 1) ++ Builtin.zeroCells zv.cells (grownCap w (m + 1) 0 e - (m + 1))) S
    ((Keep.drew w).non (wBB w.drew _)) (wJr (k3 μ) (m + 1)) (heap_alloc_new w.drew _) (by rw [hcs];exact kh _ hge) hcm
    (by
     simp only [ky,size_zeroCells,zlen,<- kc]
     congr 1
     omega)
    (by
     rw [kq,wFU]
     exact List.take_left)
   refine fin s1 s2 ⟨_,s4,?_,?_⟩ s3 (by rw [hx,hy];exact hrun)
   ·simpa using hge
   ·simp
 ·cases hr
theorem e_clr {z:List AV} {x:AOd} {op:Op} (hc:wTS P z x op=true):OkE C P op (wQm z x):=by
 intro σA h v h' hr μ σ w hE S o ho
 unfold wTS at hc
 split at hc
 ·rename_i c
  obtain ⟨ce,args,tys⟩:=c
  simp only at hc
  split at hc
  ·rename_i b
   simp only [nB,beq_iff_eq] at hc
   obtain ⟨rfl,h2⟩:=hc
   split at h2
   ·rename_i x' t h3 h4
    simp only [nB] at h2
    obtain ⟨a1,a2⟩:=h2
    obtain ⟨d,d1,d2⟩:=wBL a1
    split at d2 <;> first | (cases d2;done) | skip
    rename_i e
    have ea:args=#[x']:=nX (by simpa using h3)
    have et:tys=#[t]:=nX (by simpa using h4)
    subst ea et
    have hx:=wAW a2 hE
    obtain ⟨i,zv,z1,z2,z3⟩:=wIQ d2
    have zero:∀ {A:Option Addr} {c:Nat},ev σ x'=.slice A 0 c->v=u->h'=h->∃ μ' w' cv,Ext μ h.fl.nat w μ' w'/\Sim C P μ' h' w'/\Rv μ' v cv/\h'.fl=h.fl/\Runs P σ w o cv w':=by
     intro A c hA hv hh
     subst hv hh
     refine ⟨μ,w,undef,Ext.refl μ _ w,S,wUd μ,rfl,by rw [ho];rfl,?_⟩
     cases A <;> simp [execOp,ho,resolve,invoke,builtin,Builtin.clear_,hA,wBY d1,undef]
    have full:∀ {b:Pos} {c:Cl} {off n cap:Nat},μ b=some c->ev σ x'=.slice (some ⟨c.1,off,none⟩) n cap->clr h z b off n=some (v,h')->∃ μ' w' cv,Ext μ h.fl.nat w μ' w'/\Sim C P μ' h' w'/\Rv μ' v cv/\h'.fl=h.fl/\Runs P σ w o cv w':=by
     intro b c off n cap hb hA hr
     unfold clr at hr
     split at hr
     ·cases hr;exact zero hA rfl rfl
     ·rename_i n
      obtain ⟨hones,hr'⟩:=wCA hr
      split at hr'
      ·rename_i h1' hset
       cases hr'
       have k1:=wJr (z3 μ) (n + 1)
       have k2:∀ v ∈ (nJ (n + 1) zv.cells.toList).flatten,one v=true:=by
        intro v hv
        simp only [List.mem_flatten,List.mem_replicate] at hv
        obtain ⟨l,⟨_,rfl⟩,hv⟩:=hv
        exact wFi (z3 μ) hones v hv
       obtain ⟨w',q1,q2,q3,q4⟩:=wHJ hset S k1 k2 hb
       refine ⟨μ,w',undef,q3,q2,wUd μ,q4,by rw [ho];rfl,?_⟩
       rw [<- wFU] at q1
       simp [execOp,ho,resolve,invoke,builtin,Builtin.clear_,hA,wBY d1,wGL z1 z2,q1,undef,Result.andThen]
      ·cases hr'
    unfold wQm at hr
    split at hr
    ·rename_i hb;rw [hb] at hx;obtain ⟨c,g1,_,g3⟩:=hx;exact full g1 g3 hr
    ·rename_i hb;rw [hb] at hx;obtain ⟨c,g1,_,g3⟩:=hx;exact full g1 g3 hr
    ·rename_i hb;rw [hb] at hx;cases hr;obtain ⟨c,g1,q,g3⟩:=hx;exact zero g3 rfl rfl
    ·rename_i hb;rw [hb] at hx;cases hr;have hx:ev σ x'=.slice none 0 0:=hx;exact zero hx rfl rfl
    ·cases hr
   ·cases h2
  ·cases hc
 ·cases hc
end
end
noncomputable section
open Go.RowKit Go.KL
section
variable {C:Chk} {P:Program} {μ μ':Mu} {w w':World} {h h':AH} {σ:Env} {σA:Tr AV} {t e:TypeId} {o:Oper} {K:Type} [DecidableEq K]
def wQT (P:Program) (two:Bool) (k:IntKind) (kt:TypeId):Bool:=match two with
 | false=>wFp P kt fun d=>match wOz d with | some k'=>keq k k' | none=>false
 | true=>(!P.stoodInHeld kt) && wFp P kt fun d=>match d with
  | .struct fs=>match fs.toList with
   | [f, g] => nG f.type g.type && (nG f.offset 0 && (nG g.offset 1 && ((f.name != "_") && ((g.name != "_") && wFp P f.type fun d => match wOz d with | some k' => keq k k' | none => false))))
   | _=>false
  | _=>false
theorem keyI {k:IntKind} {kt:TypeId} (hc:wQT P false k kt=true):KeyR P kt (fun n:Int=>aG k n):=by
 obtain ⟨d,d1,d2⟩:=wBL hc
 cases d <;> first | (cases d2;done) | skip
 have:=wBw d2
 subst this
 exact KeyR.ofInt d1
theorem key2 {k:IntKind} {kt:TypeId} (hc:wQT P true k kt=true):KeyR P kt (mk2 k):=by
 simp only [wQT,nB,ni] at hc
 obtain ⟨c0,c1⟩:=hc
 obtain ⟨d,d1,d2⟩:=wBL c1
 split at d2
 ·rename_i fs
  split at d2
  ·rename_i f g hfs
   simp only [nB] at d2
   obtain ⟨a1,a2,a3,a4,a5,a6⟩:=d2
   obtain ⟨di,i1,i2⟩:=wBL a6
   cases di <;> first | (cases i2;done) | skip
   have ek:=wBw i2
   subst ek
   have efs:fs=#[f,g]:=nX (by simpa using hfs)
   subst efs
   have T:Two P kt f.type f g k:=⟨d1,rfl,nD a2,by simpa using a4,(nD a1).symm,nD a3,by simpa using a5,i1,fun w=>wIR i1 w,c0⟩
   exact T.keyR (mk2 k) (·.1) (·.2) (fun _=>rfl) fun x y h1 h2=>Prod.ext h1 h2
  ·cases d2
 ·cases d2
theorem mrI {l:List (Int × AV)} {tt:List (Int × Value)} (hm:MR μ l tt) (n:Int):(wNR l n=none/\wHn tt n=none) \/ ∃ a v,wNR l n=some a/\wHn tt n=some v/\Rv μ a v:=by
 induction l generalizing tt with
 | nil=>cases tt with
  | nil=>exact .inl ⟨rfl,rfl⟩
  | cons q tt=>have:=hm.1;simp at this
 | cons p l ih =>
  cases tt with
  | nil=>have:=hm.1;simp at this
  | cons q tt =>
   obtain ⟨a,x⟩:=p
   obtain ⟨b,v⟩:=q
   obtain ⟨h1,h2⟩:=hm
   simp only [nL,nK] at h1
   obtain ⟨v',ws,g1,g2,g3⟩:=h2
   simp only [nL,nK] at g3
   obtain ⟨rfl,rfl⟩:=g3
   obtain ⟨rfl,h1⟩:=h1
   simp only [wNR,wHn]
   by_cases e:n=a
   ·right;exact ⟨x,v,by simp [wFj,e],by simp [e],g1⟩
   ·have:=ih (tt:=tt) ⟨h1,g2⟩
    simpa [wFj,e] using this
theorem wTU {l:List (Int × AV)} {tt:List (Int × Value)} (hm:MR μ l tt) (n:Int) {a:AV} {v:Value} (hv:Rv μ a v):MR μ (wOY l n a) (mput tt n v):=by
 induction l generalizing tt with
 | nil=>cases tt with
  | nil=>exact ⟨rfl,wBv hv wIN⟩
  | cons q tt=>have:=hm.1;simp at this
 | cons p l ih =>
  cases tt with
  | nil=>have:=hm.1;simp at this
  | cons q tt =>
   obtain ⟨b,x⟩:=p
   obtain ⟨b',v0⟩:=q
   obtain ⟨h1,h2⟩:=hm
   simp only [nL,nK] at h1
   obtain ⟨v',ws,g1,g2,g3⟩:=h2
   simp only [nL,nK] at g3
   obtain ⟨rfl,rfl⟩:=g3
   obtain ⟨rfl,h1⟩:=h1
   simp only [wOY,mput,wFj]
   by_cases e:n=b
   ·simp only [e,decide_true,if_true]
    exact ⟨by simp [h1],wBv hv g2⟩
   ·have:=ih (tt:=tt) ⟨h1,g2⟩
    simp only [e,decide_false,if_false]
    exact ⟨by simp [this.1],wBv g1 this.2⟩
theorem wTV {l:List (Int × AV)} {tt:List (Int × Value)} (hm:MR μ l tt) (n:Int):MR μ (wOa l n) (mdel tt n):=by
 induction l generalizing tt with
 | nil=>cases tt with
  | nil=>exact ⟨rfl,rfl⟩
  | cons q tt=>have:=hm.1;simp at this
 | cons p l ih =>
  cases tt with
  | nil=>have:=hm.1;simp at this
  | cons q tt =>
   obtain ⟨b,x⟩:=p
   obtain ⟨b',v0⟩:=q
   obtain ⟨h1,h2⟩:=hm
   simp only [nL,nK] at h1
   obtain ⟨v',ws,g1,g2,g3⟩:=h2
   simp only [nL,nK] at g3
   obtain ⟨rfl,rfl⟩:=g3
   obtain ⟨rfl,h1⟩:=h1
   simp only [wOa,mdel,wFj]
   by_cases e:n=b
   ·simp only [e,decide_true,if_true]
    exact ⟨h1,g2⟩
   ·have:=ih (tt:=tt) ⟨h1,g2⟩
    simp only [e,decide_false,if_false]
    exact ⟨by simp [this.1],wBv g1 this.2⟩
theorem z2 (x y a b:Int):(zeq x a && zeq y b)=decide ((x,y)=(a,b)):=by
 rw [wFj,wFj]
 by_cases h1:x=a <;> by_cases h2:y=b <;> simp [h1,h2]
theorem mr2 {l:List ((Int × Int) × AV)} {tt:List ((Int × Int) × Value)} (hm:MR μ l tt) (x y:Int):(wNQ l x y=none/\wHn tt (x,y)=none) \/ ∃ a v,wNQ l x y=some a/\wHn tt (x,y)=some v/\Rv μ a v:=by
 induction l generalizing tt with
 | nil=>cases tt with
  | nil=>exact .inl ⟨rfl,rfl⟩
  | cons q tt=>have:=hm.1;simp at this
 | cons p l ih =>
  cases tt with
  | nil=>have:=hm.1;simp at this
  | cons q tt =>
   obtain ⟨⟨a,b⟩,x0⟩:=p
   obtain ⟨b',v⟩:=q
   obtain ⟨h1,h2⟩:=hm
   simp only [nL,nK] at h1
   obtain ⟨v',ws,g1,g2,g3⟩:=h2
   simp only [nL,nK] at g3
   obtain ⟨rfl,rfl⟩:=g3
   obtain ⟨rfl,h1⟩:=h1
   simp only [wNQ,wHn,z2]
   by_cases e:(x,y)=(a,b)
   ·right;exact ⟨x0,v,by simp only [e,decide_true],by simp only [e,if_true],g1⟩
   ·have:=ih (tt:=tt) ⟨h1,g2⟩
    simp only [e,decide_false,if_false]
    exact this
theorem wTW {l:List ((Int × Int) × AV)} {tt:List ((Int × Int) × Value)} (hm:MR μ l tt) (x y:Int) {a:AV} {v:Value} (hv:Rv μ a v):MR μ (wOX l x y a) (mput tt (x,y) v):=by
 induction l generalizing tt with
 | nil=>cases tt with
  | nil=>exact ⟨rfl,wBv hv wIN⟩
  | cons q tt=>have:=hm.1;simp at this
 | cons p l ih =>
  cases tt with
  | nil=>have:=hm.1;simp at this
  | cons q tt =>
   obtain ⟨⟨b1,b2⟩,x0⟩:=p
   obtain ⟨b',v0⟩:=q
   obtain ⟨h1,h2⟩:=hm
   simp only [nL,nK] at h1
   obtain ⟨v',ws,g1,g2,g3⟩:=h2
   simp only [nL,nK] at g3
   obtain ⟨rfl,rfl⟩:=g3
   obtain ⟨rfl,h1⟩:=h1
   simp only [wOX,mput,z2]
   by_cases e:(x,y)=(b1,b2)
   ·simp only [e,decide_true,if_true]
    exact ⟨by simp [h1],wBv hv g2⟩
   ·have:=ih (tt:=tt) ⟨h1,g2⟩
    simp only [e,decide_false,if_false]
    exact ⟨by simp [this.1],wBv g1 this.2⟩
theorem wTX {l:List ((Int × Int) × AV)} {tt:List ((Int × Int) × Value)} (hm:MR μ l tt) (x y:Int):MR μ (wOZ l x y) (mdel tt (x,y)):=by
 induction l generalizing tt with
 | nil=>cases tt with
  | nil=>exact ⟨rfl,rfl⟩
  | cons q tt=>have:=hm.1;simp at this
 | cons p l ih =>
  cases tt with
  | nil=>have:=hm.1;simp at this
  | cons q tt =>
   obtain ⟨⟨b1,b2⟩,x0⟩:=p
   obtain ⟨b',v0⟩:=q
   obtain ⟨h1,h2⟩:=hm
   simp only [nL,nK] at h1
   obtain ⟨v',ws,g1,g2,g3⟩:=h2
   simp only [nL,nK] at g3
   obtain ⟨rfl,rfl⟩:=g3
   obtain ⟨rfl,h1⟩:=h1
   simp only [wOZ,mdel,z2]
   by_cases e:(x,y)=(b1,b2)
   ·simp only [e,decide_true,if_true]
    exact ⟨h1,g2⟩
   ·have:=ih (tt:=tt) ⟨h1,g2⟩
    simp only [e,decide_false,if_false]
    exact ⟨by simp [this.1],wBv g1 this.2⟩
theorem wVU {mt kt et:TypeId} {m ck:Nat} {es:Array MapEntry} {mk:K->Value} {tt:List (K × Value)} {a:K} {z:Value} {ok:Bool} (hm:w.heap[m]?=some (.map es ck)) (hu:P.underlying mt=some (.map kt et)) (R:KeyR P kt mk) (hz:∀ w,(zeroValue et).run P w=.ok z w) (hh:MpR es mk id tt) :
  (Instr.lookup mt (.map (some m)) (mk a) ok).run P w=.ok (if ok then .tuple #[wBU tt a z,.bool (wJi tt a)] else wBU tt a z) w:=by
 have hf:=R.find id es.toList tt a w hh
 have hg:=wGc tt a 0
 unfold wBU wJi
 simp [Instr.lookup,run_underlying hu,MapKept.run_getObj_map hm,R.chk,hf,Result.andThen,<- hg]
 cases e:wDy tt a 0 <;> simp [hz,Result.andThen]
theorem wTY {mt kt et:TypeId} {m ck:Nat} {es:Array MapEntry} {mk:K->Value} {tt:List (K × Value)} {a:K} {v:Value} (hm:w.heap[m]?=some (.map es ck)) (hu:P.underlying mt=some (.map kt et)) (R:KeyR P kt mk) (hh:MpR es mk id tt) :
  ∃ es' ck',MpR es' mk id (mput tt a v)/\(Instr.mapUpdate mt (.map (some m)) (mk a) v).run P w=.ok () (w.putObj m (.map es' ck')):=by
 have hf:=R.find id es.toList tt a w hh
 cases e:wDy tt a 0 with
 | none =>
  obtain ⟨e1,_⟩:=wGd e v
  refine ⟨es.push { key:=mk a,val:=v,born:=ck },ck + 1,?_,?_⟩
  ·unfold MpR at hh ⊢;rw [e1];simp [hh]
  ·simp [Instr.mapUpdate,run_underlying hu,MapKept.run_getObj_map hm,R.chk,hf,e,Result.andThen,MapKept.run_setObj_map _ hm]
   rfl
 | some p =>
  obtain ⟨q,u⟩:=p
  obtain ⟨_,h2,h3,_⟩:=wGe e v
  rw [Nat.sub_zero] at h2 h3
  have hq:q < tt.length:=(List.getElem?_eq_some_iff.1 h2).1
  have hl:es.size=tt.length:=by have:=congrArg kR hh;simpa using this
  have hkq:((es[q]?).map (·.key)).getD (mk a)=mk a:=by
   have h4:(es.toList.map (fun e=>(e.key,e.val)))[q]?=some (mk a,u):=by rw [hh,kE,h2];rfl
   rw [kE] at h4
   cases h5:es.toList[q]? with
   | none=>rw [h5] at h4;cases h4
   | some e =>
    rw [h5] at h4
    simp only [Option.map_some,kz,Prod.mk.injEq] at h4
    have h6:es[q]?=some e:=by simpa using h5
    rw [h6];simp [h4.1]
  refine ⟨es.modify q fun e=>{ e with key:=mk a,val:=v },ck,?_,?_⟩
  ·unfold MpR at hh ⊢
   rw [h3]
   apply aA
   intro n
   have hn:=congrArg (·[n]?) hh
   simp only [kE] at hn ⊢
   rw [aB]
   simp only [Array.toList_modify,List.getElem?_modify]
   by_cases hqn:q=n
   ·subst hqn
    have h5:es.toList[q]?=some (es.toList[q]'(by simpa [hl] using hq)):=nS _
    simp [h5,hq]
   ·simp only [hqn,if_false]
    simpa [hqn] using hn
  ·simp [Instr.mapUpdate,run_underlying hu,MapKept.run_getObj_map hm,R.chk,hf,e,Result.andThen,MapKept.run_setObj_map _ hm,Instr.keyThatStays,hkq,R.same]
   rfl
theorem wTZ {mt kt et ty:TypeId} {tys:Array TypeId} {m ck:Nat} {es:Array MapEntry} {mk:K->Value} {tt:List (K × Value)} {a:K} (hty:tys[0]?=some mt) (hm:w.heap[m]?=some (.map es ck)) (hu:P.underlying mt=some (.map kt et)) (R:KeyR P kt mk) (hh:MpR es mk id tt) :
  ∃ es' ck',MpR es' mk id (mdel tt a)/\(Builtin.delete_ tys ty #[.map (some m),mk a]).run P w=.ok (.tuple #[]) (w.putObj m (.map es' ck')):=by
 have hf:=R.find id es.toList tt a w hh
 cases e:wDy tt a 0 with
 | none =>
  obtain ⟨_,e1⟩:=wGd e (.bool true)
  refine ⟨es,ck,by rw [e1];exact hh,?_⟩
  simp [Builtin.delete_,hty,run_underlying hu,MapKept.run_getObj_map hm,R.chk,hf,e,Result.andThen,MapKept.run_setObj_map _ hm]
  rfl
 | some p =>
  obtain ⟨q,u⟩:=p
  obtain ⟨_,h2,_,h3⟩:=wGe e (.bool true)
  rw [Nat.sub_zero] at h2 h3
  refine ⟨es.eraseIdxIfInBounds q,ck,?_,?_⟩
  ·unfold MpR at hh ⊢
   rw [h3,<- wFd,<- hh,wFd]
   simp
  ·simp [Builtin.delete_,hty,run_underlying hu,MapKept.run_getObj_map hm,R.chk,hf,e,Result.andThen,MapKept.run_setObj_map _ hm]
   rfl
def wTa (C:Chk) (P:Program) (μ:Mu) (w:World) (c:Cl) (two:Bool) (k:IntKind) (kt:TypeId) (B:AB) (y:AV) (Y:Value):Prop :=
 ∃ (K:Type) (_:DecidableEq K) (mk:K->Value) (a:K) (es:Array MapEntry) (ck:Nat) (tt:List (K × Value)),Y=mk a/\w.heap[c.1]?=some (.map es ck)/\KeyR P kt mk/\MpR es mk id tt /\
 (∀ q,wIK two k B y=some q->(q=none/\wHn tt a=none) \/ ∃ x v,q=some x/\wHn tt a=some v/\Rv μ x v) /\
 (∀ x v B',wQR two k B y x=some B'->Rv μ x v->wNy B'/\∀ w' es' ck',w'.heap[c.1]?=some (.map es' ck')->MpR es' mk id (mput tt a v)->AbR C P μ w' c B') /\
 (∀ B',wQS two k B y=some B'->wNy B'/\∀ w' es' ck',w'.heap[c.1]?=some (.map es' ck')->MpR es' mk id (mdel tt a)->AbR C P μ w' c B')
theorem wPK {two:Bool} {k:IntKind} {kt:TypeId} {B:AB} {y:AV} {Y:Value} {c:Cl} (hk:wQT P two k kt=true) (hB:AbR C P μ w c B) (hY:Rv μ y Y) (hr:(wIK two k B y).isSome=true \/ (∃ v,(wQR two k B y v).isSome=true) \/ (wQS two k B y).isSome=true) :
  wTa C P μ w c two k kt B y Y/\wNy B:=by
 have caseI:two=false->∀ (n:Int) (es:Array MapEntry) (ck:Nat) (tt:List (Int × Value)) (l:List (Int × AV)),y=.int k n->w.heap[c.1]?=some (.map es ck)->MpR es (fun n:Int=>aG k n) id tt->MR μ l tt ->
   (∀ q,wIK two k B y=some q->q=wNR l n)->(∀ x B',wQR two k B y x=some B'->B'=.mapI k (wOY l n x))->(∀ B',wQS two k B y=some B'->B'=.mapI k (wOa l n) \/ (B'=.map0/\l=[]))->wTa C P μ w c two k kt B y Y:=by
  intro h2 n es ck tt l hy hm hp hM q1 q2 q3
  subst h2 hy
  have hY:Y=.int k n:=hY
  refine ⟨Int,inferInstance,fun n=>aG k n,n,es,ck,tt,hY,hm,keyI hk,hp,?_,?_,?_⟩
  ·intro q hq
   rw [q1 q hq]
   exact mrI hM n
  ·intro x v B' hB' hv
   have:=q2 x B' hB'
   subst this
   exact ⟨trivial,fun w' es' ck' g1 g2=>⟨es',ck',_,g1,g2,wTU hM n hv⟩⟩
  ·intro B' hB'
   rcases q3 B' hB' with rfl | ⟨rfl,rfl⟩
   ·exact ⟨trivial,fun w' es' ck' g1 g2=>⟨es',ck',_,g1,g2,wTV hM n⟩⟩
   ·refine ⟨trivial,fun w' es' ck' g1 g2=>⟨ck',?_⟩⟩
    cases tt with
    | cons p tt=>have:=hM.1;simp at this
    | nil =>
     have:es'=#[]:=by
      unfold MpR at g2
      simp only [mdel,List.map_nil,kr] at g2
      exact nX (by simpa using g2)
     rw [this] at g1;exact g1
 have case2:two=true->∀ (n m:Int) (es:Array MapEntry) (ck:Nat) (tt:List ((Int × Int) × Value)) (l:List ((Int × Int) × AV)),y=.agg [.int k n,.int k m]->w.heap[c.1]?=some (.map es ck)->MpR es (mk2 k) id tt->MR μ l tt ->
   (∀ q,wIK two k B y=some q->q=wNQ l n m)->(∀ x B',wQR two k B y x=some B'->B'=.map2 k (wOX l n m x))->(∀ B',wQS two k B y=some B'->B'=.map2 k (wOZ l n m) \/ (B'=.map0/\l=[]))->wTa C P μ w c two k kt B y Y:=by
  intro h2 n m es ck tt l hy hm hp hM q1 q2 q3
  subst h2 hy
  have hY:Y=mk2 k (n,m):=by
   obtain ⟨vs,g1,rfl⟩:=hY
   obtain ⟨v1,ws,g2,g3,rfl⟩:=g1
   obtain ⟨v2,ws2,g4,g5,rfl⟩:=g3
   cases g5
   have g2:v1=.int k n:=g2
   have g4:v2=.int k m:=g4
   subst g2 g4
   rfl
  refine ⟨Int × Int,inferInstance,mk2 k,(n,m),es,ck,tt,hY,hm,key2 hk,hp,?_,?_,?_⟩
  ·intro q hq
   rw [q1 q hq]
   exact mr2 hM n m
  ·intro x v B' hB' hv
   have:=q2 x B' hB'
   subst this
   exact ⟨trivial,fun w' es' ck' g1 g2=>⟨es',ck',_,g1,g2,wTW hM n m hv⟩⟩
  ·intro B' hB'
   rcases q3 B' hB' with rfl | ⟨rfl,rfl⟩
   ·exact ⟨trivial,fun w' es' ck' g1 g2=>⟨es',ck',_,g1,g2,wTX hM n m⟩⟩
   ·refine ⟨trivial,fun w' es' ck' g1 g2=>⟨ck',?_⟩⟩
    cases tt with
    | cons p tt=>have:=hM.1;simp at this
    | nil =>
     have:es'=#[]:=by
      unfold MpR at g2
      simp only [mdel,List.map_nil,kr] at g2
      exact nX (by simpa using g2)
     rw [this] at g1;exact g1
 have shape:(∃ n,two=false/\y=.int k n/\(B=.map0 \/ ∃ l,B=.mapI k l)) \/ (∃ n m,two=true/\y=.agg [.int k n,.int k m]/\(B=.map0 \/ ∃ l,B=.map2 k l)):=by
  have fI:∀ {k':IntKind} {b:Bool} {α:Type} {x:Option α},(ifO b x).isSome=true->b=true:=fun {k' b α x} hq=>by cases b <;> first | rfl | cases hq
  rcases hr with hr | ⟨v,hr⟩ | hr
  ·unfold wIK at hr
   split at hr <;> first | (cases hr;done) | skip
   ·have:=wBw (fI (k':=k) hr);subst this;exact .inl ⟨_,rfl,rfl,.inl rfl⟩
   ·have:=fI (k':=k) hr;simp only [nB] at this
    have e1:=wBw this.1;have e2:=wBw this.2;subst e1 e2;exact .inr ⟨_,_,rfl,rfl,.inl rfl⟩
   ·have:=fI (k':=k) hr;simp only [nB] at this
    have e1:=wBw this.1;have e2:=wBw this.2;subst e1 e2;exact .inl ⟨_,rfl,rfl,.inr ⟨_,rfl⟩⟩
   ·have:=fI (k':=k) hr;simp only [nB] at this
    have e1:=wBw this.1;have e2:=wBw this.2.1;have e3:=wBw this.2.2;subst e1 e2 e3;exact .inr ⟨_,_,rfl,rfl,.inr ⟨_,rfl⟩⟩
  ·unfold wQR at hr
   split at hr <;> first | (cases hr;done) | skip
   ·have:=wBw (fI (k':=k) hr);subst this;exact .inl ⟨_,rfl,rfl,.inl rfl⟩
   ·have:=fI (k':=k) hr;simp only [nB] at this
    have e1:=wBw this.1;have e2:=wBw this.2;subst e1 e2;exact .inr ⟨_,_,rfl,rfl,.inl rfl⟩
   ·have:=fI (k':=k) hr;simp only [nB] at this
    have e1:=wBw this.1;have e2:=wBw this.2;subst e1 e2;exact .inl ⟨_,rfl,rfl,.inr ⟨_,rfl⟩⟩
   ·have:=fI (k':=k) hr;simp only [nB] at this
    have e1:=wBw this.1;have e2:=wBw this.2.1;have e3:=wBw this.2.2;subst e1 e2 e3;exact .inr ⟨_,_,rfl,rfl,.inr ⟨_,rfl⟩⟩
  ·unfold wQS at hr
   split at hr <;> first | (cases hr;done) | skip
   ·have:=wBw (fI (k':=k) hr);subst this;exact .inl ⟨_,rfl,rfl,.inl rfl⟩
   ·have:=fI (k':=k) hr;simp only [nB] at this
    have e1:=wBw this.1;have e2:=wBw this.2;subst e1 e2;exact .inr ⟨_,_,rfl,rfl,.inl rfl⟩
   ·have:=fI (k':=k) hr;simp only [nB] at this
    have e1:=wBw this.1;have e2:=wBw this.2;subst e1 e2;exact .inl ⟨_,rfl,rfl,.inr ⟨_,rfl⟩⟩
   ·have:=fI (k':=k) hr;simp only [nB] at this
    have e1:=wBw this.1;have e2:=wBw this.2.1;have e3:=wBw this.2.2;subst e1 e2 e3;exact .inr ⟨_,_,rfl,rfl,.inr ⟨_,rfl⟩⟩
 have iS:∀ {b:Bool} {α:Type} {x:Option α} {v:α},ifO b x=some v->x=some v:=fun hq=>(wCA hq).2
 rcases shape with ⟨n,rfl,rfl,rfl | ⟨l,rfl⟩⟩ | ⟨n,m,rfl,rfl,rfl | ⟨l,rfl⟩⟩
 ·obtain ⟨ck,hm⟩:=hB
  refine ⟨?_,trivial⟩
  exact caseI rfl n #[] ck [] [] rfl hm rfl ⟨rfl,rfl⟩ (fun q hq=>by simp only [wIK] at hq;cases iS hq;rfl) (fun x B' hq=>by simp only [wQR] at hq;cases iS hq;rfl) (fun B' hq=>by simp only [wQS] at hq;cases iS hq;exact .inr ⟨rfl,rfl⟩)
 ·obtain ⟨es,ck,tt,hm,hp,hM⟩:=hB
  refine ⟨?_,trivial⟩
  exact caseI rfl n es ck tt l rfl hm hp hM (fun q hq=>by simp only [wIK] at hq;cases iS hq;rfl) (fun x B' hq=>by simp only [wQR] at hq;cases iS hq;rfl) (fun B' hq=>by simp only [wQS] at hq;cases iS hq;exact .inl rfl)
 ·obtain ⟨ck,hm⟩:=hB
  refine ⟨?_,trivial⟩
  exact case2 rfl n m #[] ck [] [] rfl hm rfl ⟨rfl,rfl⟩ (fun q hq=>by simp only [wIK] at hq;cases iS hq;rfl) (fun x B' hq=>by simp only [wQR] at hq;cases iS hq;rfl) (fun B' hq=>by simp only [wQS] at hq;cases iS hq;exact .inr ⟨rfl,rfl⟩)
 ·obtain ⟨es,ck,tt,hm,hp,hM⟩:=hB
  refine ⟨?_,trivial⟩
  exact case2 rfl n m es ck tt l rfl hm hp hM (fun q hq=>by simp only [wIK] at hq;cases iS hq;rfl) (fun x B' hq=>by simp only [wQR] at hq;cases iS hq;rfl) (fun B' hq=>by simp only [wQS] at hq;cases iS hq;exact .inl rfl)
def c_lk (P:Program) (two:Bool) (k:IntKind) (ok:Bool) (z:AV) (x y:AOd):Op->Bool
 | .lookup t x' y' ok'=>wFp P t (fun d=>match d with
   | .map kt et=>wQT P two k kt && (match P.info? et with
    | some i=>match i.zero with | some v=>okc z v | none=>false
    | none=>false)
   | _=>false) && ((ok == ok') && (wCl x x' && wCl y y'))
 | _=>false
def lkV (ok:Bool) (z:AV) (q:Option AV):AV:=match ok with
 | true=>.tup [q.getD z,.bool q.isSome]
 | false=>q.getD z
theorem l_lk {two:Bool} {k:IntKind} {ok:Bool} {z:AV} {x y:AOd} {op:Op} (hc:c_lk P two k ok z x y op=true):OkL C P op (o_lk two k ok z x y):=by
 intro σA h v h' hr
 unfold c_lk at hc
 split at hc
 ·rename_i t x' y' ok'
  simp only [nB,beq_iff_eq] at hc
  obtain ⟨c1,rfl,c2,c3⟩:=hc
  obtain ⟨d,d1,d2⟩:=wBL c1
  split at d2 <;> first | (cases d2;done) | skip
  rename_i kt et
  simp only [nB] at d2
  obtain ⟨k1,k2⟩:=d2
  split at k2 <;> first | (cases k2;done) | skip
  rename_i i hi
  split at k2 <;> first | (cases k2;done) | skip
  rename_i zv hz
  unfold o_lk at hr
  split at hr <;> first | (cases hr;done) | skip
  rename_i b hx
  split at hr <;> first | (cases hr;done) | skip
  rename_i B hB
  have key:∀ q,wIK two k B (evA σA y)=some q->h'=h->v=lkV ok z q->h'=h/\∀ μ σ w,EnvR μ σA σ->Sim C P μ h w->∃ cv,Rv μ v cv/\∀ (o:Oper),o.op=.lookup t x' y' ok->RunsK P σ w o cv:=by
   intro q hq hh hv
   subst hh hv
   refine ⟨rfl,fun μ σ w hE S=>?_⟩
   have g:=wAW c2 hE;rw [hx] at g
   obtain ⟨c,g1,g2⟩:=g
   obtain ⟨c',g3,g4⟩:=S.at_ b B hB
   rw [g1] at g3;cases g3
   obtain ⟨⟨K,_,mk,a,es,ck,tt,e1,e2,e3,e4,e5,_,_⟩,hl⟩:=wPK k1 g4 (wAW c3 hE) (.inl (by rw [hq];rfl))
   have hrun:∀ w',Keep w w' Non->∀ (o:Oper),o.op=.lookup t x' y' ok->Runs P σ w' o (if ok then .tuple #[wBU tt a zv,.bool (wJi tt a)] else wBU tt a zv) w':=by
    intro w' K o ho
    have hm:=(K.block _ (wAr e2) id).trans e2
    have:=wVU (P:=P) (ok:=ok) hm d1 e3 (wGL hi hz) e4 (a:=a)
    exact ⟨by rw [ho];rfl,by simp [execOp,ho,g2,e1,this,Result.andThen]⟩
   refine ⟨_,?_,fun o ho w' K=>hrun w' K o ho⟩
   have hval:Rv μ (q.getD z) (wBU tt a zv)/\q.isSome=wJi tt a:=by
    rcases e5 q hq with ⟨rfl,q2⟩ | ⟨x,v,rfl,q2,q3⟩
    ·unfold wBU wJi;rw [q2];exact ⟨wOv μ k2,rfl⟩
    ·unfold wBU wJi;rw [q2];exact ⟨q3,rfl⟩
   cases ok
   ·exact hval.1
   ·exact ⟨_,wBv hval.1 (wBv (v:=.bool (wJi tt a)) (by rw [<- hval.2];rfl) wIN),rfl⟩
  split at hr
  ·rename_i q hq
   cases hr
   exact key _ hq rfl (by cases ok <;> rfl)
  ·rename_i hq
   cases hr
   exact key _ hq rfl (by cases ok <;> rfl)
  ·cases hr
 ·cases hc
def wMl (P:Program) (two:Bool) (k:IntKind) (x y z:AOd):Op->Bool
 | .mapUpdate t x' y' z' | .insert t x' y' z'=>wFp P t (fun d=>match d with
   | .map kt et=>wQT P two k kt
   | _=>false) && (wCl x x' && (wCl y y' && wCl z z'))
 | _=>false
theorem wPL {two:Bool} {k:IntKind} {x y z:AOd} {op:Op} (hc:wMl P two k x y z op=true):∃ t kt et x' y' z',(op=.mapUpdate t x' y' z' \/ op=.insert t x' y' z')/\P.underlying t=some (.map kt et)/\wQT P two k kt=true/\wCl x x'=true/\wCl y y'=true/\wCl z z'=true:=by
 have key:∀ {t:TypeId} {x' y' z':Operand},(wFp P t (fun d=>match d with | .map kt et=>wQT P two k kt | _=>false) && (wCl x x' && (wCl y y' && wCl z z')))=true->∃ kt et,P.underlying t=some (.map kt et)/\wQT P two k kt=true/\wCl x x'=true/\wCl y y'=true/\wCl z z'=true:=by
  intro t x' y' z' hq
  simp only [nB] at hq
  obtain ⟨d,d1,d2⟩:=wBL hq.1
  split at d2 <;> first | (cases d2;done) | skip
  exact ⟨_,_,d1,d2,hq.2⟩
 unfold wMl at hc
 split at hc
 ·obtain ⟨kt,et,g⟩:=key hc;exact ⟨_,kt,et,_,_,_,.inl rfl,g⟩
 ·obtain ⟨kt,et,g⟩:=key hc;exact ⟨_,kt,et,_,_,_,.inr rfl,g⟩
 ·cases hc
theorem wVV {two:Bool} {k:IntKind} {x y z:AOd} {op:Op} (hc:wMl P two k x y z op=true):OkU C P op (wMb two k x y z):=by
 intro σA h v h' hr μ σ w hE S o ho
 obtain ⟨t,kt,et,x',y',z',hop,d1,k1,c1,c2,c3⟩:=wPL hc
 unfold wMb at hr
 split at hr <;> first | (cases hr;done) | skip
 rename_i b hx
 split at hr <;> first | (cases hr;done) | skip
 rename_i B hB
 split at hr <;> first | (cases hr;done) | skip
 rename_i B' hp
 split at hr <;> first | (cases hr;done) | skip
 rename_i h1' hput
 cases hr
 have g:=wAW c1 hE;rw [hx] at g
 obtain ⟨c,g1,g2⟩:=g
 obtain ⟨c',g3,g4⟩:=S.at_ b B hB
 rw [g1] at g3;cases g3
 obtain ⟨⟨K,_,mk,a,es,ck,tt,e1,e2,e3,e4,_,e6,_⟩,hl⟩:=wPK k1 g4 (wAW c2 hE) (.inr (.inl ⟨_,by rw [hp];rfl⟩))
 obtain ⟨es',ck',r1,r2⟩:=wTY (P:=P) (v:=ev σ z') e2 d1 e3 e4 (a:=a)
 obtain ⟨l1,l2⟩:=e6 _ (ev σ z') B' hp (wAW c3 hE)
 obtain ⟨s1,s2,s3⟩:=S.put hput hB hl g1 (wCU w c.1 (.map es' ck')) (l2 _ es' ck' (wGg _ (wAr e2)) r1)
 refine ⟨μ,_,s2,s1,rfl,s3,by rw [ho];rcases hop with e | e <;> (rw [e];rfl),?_⟩
 rcases hop with e | e <;> rw [e] at ho <;> simp [execOp,ho,g2,e1,r2,Result.andThen]
def wPM (P:Program) (two:Bool) (k:IntKind) (x y:AOd):Op->Bool
 | .call c=>match c.callee with
  | .builtin b=>(b == .delete) && (match c.args.toList,c.argTypes.toList with
   | [x',y'],t :: _=>wFp P t (fun d=>match d with | .map kt _=>wQT P two k kt | _=>false) && (wCl x x' && wCl y y')
   | _,_=>false)
  | _=>false
 | _=>false
theorem wVW {two:Bool} {k:IntKind} {x y:AOd} {op:Op} (hc:wPM P two k x y op=true):OkE C P op (wMc two k x y):=by
 intro σA h v h' hr μ σ w hE S o ho
 unfold wPM at hc
 split at hc <;> first | (cases hc;done) | skip
 rename_i c
 obtain ⟨ce,args,tys⟩:=c
 simp only at hc
 split at hc <;> first | (cases hc;done) | skip
 rename_i b
 simp only [nB,beq_iff_eq] at hc
 obtain ⟨rfl,h2⟩:=hc
 split at h2 <;> first | (cases h2;done) | skip
 rename_i x' y' t ts h3 h4
 simp only [nB] at h2
 obtain ⟨a1,a2,a3⟩:=h2
 obtain ⟨d,d1,d2⟩:=wBL a1
 split at d2 <;> first | (cases d2;done) | skip
 rename_i kt et
 have ea:args=#[x',y']:=nX (by simpa using h3)
 have et':tys[0]?=some t:=by rw [<- kg,h4];rfl
 unfold wMc at hr
 split at hr <;> first | (cases hr;done) | skip
 rename_i b hx
 split at hr <;> first | (cases hr;done) | skip
 rename_i B hB
 split at hr <;> first | (cases hr;done) | skip
 rename_i B' hp
 split at hr <;> first | (cases hr;done) | skip
 rename_i h1' hput
 cases hr
 have g:=wAW a2 hE;rw [hx] at g
 obtain ⟨c,g1,g2⟩:=g
 obtain ⟨c',g3,g4⟩:=S.at_ b B hB
 rw [g1] at g3;cases g3
 obtain ⟨⟨K,_,mk,a,es,ck,tt,e1,e2,e3,e4,_,_,e7⟩,hl⟩:=wPK d2 g4 (wAW a3 hE) (.inr (.inr (by rw [hp];rfl)))
 obtain ⟨es',ck',r1,r2⟩:=wTZ (P:=P) (ty:=o.type) et' e2 d1 e3 e4 (a:=a)
 obtain ⟨l1,l2⟩:=e7 B' hp
 obtain ⟨s1,s2,s3⟩:=S.put hput hB hl g1 (wCU w c.1 (.map es' ck')) (l2 _ es' ck' (wGg _ (wAr e2)) r1)
 refine ⟨μ,_,_,s2,s1,wUd μ,s3,by rw [ho];rfl,?_⟩
 simp [execOp,ho,ea,resolve,invoke,builtin,g2,e1,r2,undef,Result.andThen]
def wPN (P:Program) (x:AOd):Op->Bool
 | .call c=>match c.callee with
  | .builtin b=>(b == .len) && (match c.args.toList,c.argTypes.toList with
   | [x'],[t]=>wFp P t (fun d=>match d with | .map _ _=>true | _=>false) && wCl x x'
   | _,_=>false)
  | _=>false
 | _=>false
theorem wVX {x:AOd} {op:Op} (hc:wPN P x op=true):OkL C P op (wMd x):=by
 intro σA h v h' hr
 unfold wPN at hc
 split at hc <;> first | (cases hc;done) | skip
 rename_i c
 obtain ⟨ce,args,tys⟩:=c
 simp only at hc
 split at hc <;> first | (cases hc;done) | skip
 rename_i b
 simp only [nB,beq_iff_eq] at hc
 obtain ⟨rfl,h2⟩:=hc
 split at h2 <;> first | (cases h2;done) | skip
 rename_i x' t h3 h4
 simp only [nB] at h2
 obtain ⟨a1,a2⟩:=h2
 obtain ⟨d,d1,d2⟩:=wBL a1
 split at d2 <;> first | (cases d2;done) | skip
 rename_i kt et
 have ea:args=#[x']:=nX (by simpa using h3)
 have et':tys=#[t]:=nX (by simpa using h4)
 subst ea et'
 unfold wMd at hr
 split at hr
 ·rename_i hx
  cases hr
  refine ⟨rfl,fun μ σ w hE S=>⟨_,rfl,fun o ho w' K=>?_⟩⟩
  have g:=wAW a2 hE;rw [hx] at g
  have g:ev σ x'=.map none:=g
  exact ⟨by rw [ho];rfl,by simp [execOp,ho,resolve,invoke,builtin,Builtin.len_,g,run_underlying d1,goInt,Result.andThen]⟩
 ·rename_i b hx
  split at hr <;> first | (cases hr;done) | skip
  rename_i B hB
  split at hr <;> first | (cases hr;done) | skip
  rename_i n hn
  cases hr
  refine ⟨rfl,fun μ σ w hE S=>⟨_,rfl,fun o ho w' K=>?_⟩⟩
  have g:=wAW a2 hE;rw [hx] at g
  obtain ⟨c,g1,g2⟩:=g
  obtain ⟨c',g3,g4⟩:=S.at_ b B hB
  rw [g1] at g3;cases g3
  have hmap:∃ es ck,w.heap[c.1]?=some (.map es ck)/\es.size=n:=by
   unfold lenB at hn
   split at hn <;> first | (cases hn;done) | skip
   ·cases hn;obtain ⟨ck,q⟩:=g4;exact ⟨_,ck,q,rfl⟩
   ·cases hn
    obtain ⟨es,ck,tt,q1,q2,q3⟩:=g4
    refine ⟨es,ck,q1,?_⟩
    have e1:=congrArg kR q2
    have e2:=congrArg kR q3.1
    simp at e1 e2
    rw [wGW];omega
   ·cases hn
    obtain ⟨es,ck,tt,q1,q2,q3⟩:=g4
    refine ⟨es,ck,q1,?_⟩
    have e1:=congrArg kR q2
    have e2:=congrArg kR q3.1
    simp at e1 e2
    rw [wGW];omega
  obtain ⟨es,ck,q1,q2⟩:=hmap
  have hm:=(K.block _ (wAr q1) id).trans q1
  refine ⟨by rw [ho];rfl,?_⟩
  simp [execOp,ho,resolve,invoke,builtin,Builtin.len_,g2,run_underlying d1,MapKept.run_getObj_map hm,goInt,Result.andThen,q2]
 ·cases hr
end
end
noncomputable section
open Go.RowKit Go.KL
def kdA:AOp->Nat
 | .mv _ | .pick _ _ _ | .nilc _ | .add _ _ | .sub _ _ | .mul _ _ | .quo _ _ | .rem _ _ | .lss _ _ | .leq _ _ | .gtr _ _ | .geq _ _ | .eql _ _ | .neq _ _ | .eqb _ _ _ | .eqn _ _ _ _ | .eqs _ _ _ _
 | .bad | .and _ _ | .shr _ _ | .ixs _ _ | .neg _ | .not _ | .cvt _ _ | .mkf _ _ _ | .slc _ _ _ _ _ | .slcA _ _ _ _ _ | .fad _ _ | .fld _ _ | .fldA _ _ _ | .iad _ _ _ | .iadA _ _ _ _ | .ix _ _ _ | .ixA _ _ _ _ | .ext _ _ | .bld _ _ | .len _ | .cap _ | .min _ _ | .max _ _=>3
 | .ld _ | .ldA _ _ | .lk _ _ _ _ _ _ | .lenM _=>1
 | .st _ _ _ | .mput _ _ _ _ _=>4
 | .call _ _=>5
 | _=>0
def wPO (x:AOd) (l:List AOd):Op->Bool
 | .call c=>match c.callee with
  | .value f=>wCl x f && wKu l c.args.toList
  | _=>false
 | _=>false
def wUf:List UInt8->List Nat->Bool
 | [],[]=>true
 | a :: l,b :: k=>nG a.toNat b && wUf l k
 | _,_=>false
theorem wPP:∀ {l:List UInt8} {k:List Nat},wUf l k=true->l.map UInt8.toNat=k
 | [],[],_=>rfl
 | a :: l,b :: k,h=>by
  simp only [wUf,nB] at h
  rw [nL,nD h.1,wPP h.2]
 | [],_ :: _,h=>by simp [wUf] at h
 | _ :: _,[],h=>by simp [wUf] at h
def wTb (P:Program) (l:List Nat) (y:AOd):Op->Bool
 | .index t (.const (.string s)) y'=>wFp P t (fun d=>match d with | .string=>true | _=>false) && (wUf s.data.toList l && wCl y y')
 | _=>false
def wLv (P:Program) (a:AOp) (op:Op):Bool:=match a with
 | .mv x=>c_mv x op
 | .pick c x y=>wOw c x y op
 | .new T z=>wTN P T z op
 | .box T x=>wTO T x op
 | .ld x=>c_ld P x op
 | .ldA n x=>wTM P n x op
 | .st n x y=>c_st P n x y op
 | .nilc x=>wOx x op
 | .add x y=>wDm .add x y op
 | .sub x y=>wDm .sub x y op
 | .mul x y=>wDm .mul x y op
 | .quo x y=>wDm .quo x y op
 | .rem x y=>wDm .rem x y op
 | .lss x y=>wDm .lss x y op
 | .leq x y=>wDm .leq x y op
 | .gtr x y=>wDm .gtr x y op
 | .geq x y=>wDm .geq x y op
 | .eql x y=>wDm .eql x y op
 | .neq x y=>wDm .neq x y op
 | .eqb ne x y=>wTD P ne x y op
 | .eqn k ne x y=>wTE P k ne x y op
 | .eqs ne s x y=>wTF P ne s x y op
 | .neg x=>wSy x op
 | .not x=>wSz x op
 | .cvt k x=>wTA (P:=P) k x op
 | .mkf f fi ca=>wTB f fi ca op
 | .mkm=>wTP op
 | .mks T sz by_ z x y=>wTQ P T sz by_ z x y op
 | .slc sz x lo hi mx=>wTK P sz x lo hi mx op
 | .slcA sz n x lo hi=>wPG P sz n x lo hi op
 | .fad off x=>wTG P off x op
 | .fld off x=>wTH P off x op
 | .fldA off n x=>wPC P off n x op
 | .iad sz x y=>wTI P sz x y op
 | .iadA sz n x y=>wPD P sz n x y op
 | .ix n x y=>c_ix P n x y op
 | .ixA sz n x y=>wTJ P sz n x y op
 | .lk two k ok z x y=>c_lk P two k ok z x y op
 | .mput two k x y z=>wMl P two k x y z op
 | .mdel two k x y=>wPM P two k x y op
 | .ext i x=>wTC i x op
 | .bld z ps=>wTL P z ps op
 | .blds T n z ps=>wPI P T n z ps op
 | .len x=>wNY P .len x op
 | .lenM x=>wPN P x op
 | .cap x=>wNY P .cap x op
 | .app T sz by_ x y=>wQt P T sz by_ x y op
 | .cpy sz x y=>wTR P sz x y op
 | .clr z x=>wTS P z x op
 | .min x y=>wUe .min x y op
 | .max x y=>wUe .max x y op
 | .call x l=>wPO x l op
 | .bad=>true
 | .and x y=>wDm .and x y op
 | .shr x y=>wDm .shr x y op
 | .ixs l y=>wTb P l y op
 | .apz T sz by_ z x y=>wTT P T sz by_ z x y op
section
variable {C:Chk} {P:Program} {tb:Tr AF} {ex exY:Run}
theorem p_bad {op:Op}:OkP P op (wSt):=by
 intro σA h v h' hr
 cases hr
theorem p_and {x y:AOd} {op:Op} (hc:wDm .and x y op=true):OkP P op (wSr x y):=by
 intro σA h v h' hr
 obtain ⟨t,x',y',t',rfl,h1,h2⟩:=wHI hc
 obtain ⟨hr2,rfl⟩:=wBz hr
 split at hr2
 ·rename_i k a k' b ha hb
  split at hr2
  ·rename_i hk
   cases hr2
   have hk:=wBw hk
   subst hk
   refine ⟨rfl,fun μ σ hE=>⟨_,rfl,fun o w ho=>?_⟩⟩
   have g1:=wAW h1 hE;rw [ha] at g1
   have g2:=wAW h2 hE;rw [hb] at g2
   have g1:ev σ x'=.int k a:=g1
   have g2:ev σ y'=.int k b:=g2
   exact ⟨by rw [ho];rfl,by simp [execOp,ho,g1,g2,binOp,eqGuard,Op.intBits,andI]⟩
  ·cases hr2
 ·cases hr2
theorem p_shr {x y:AOd} {op:Op} (hc:wDm .shr x y op=true):OkP P op (wSs x y):=by
 intro σA h v h' hr
 obtain ⟨t,x',y',t',rfl,h1,h2⟩:=wHI hc
 obtain ⟨hr2,rfl⟩:=wBz hr
 split at hr2
 ·rename_i k a k' b ha hb
  cases hr2
  refine ⟨rfl,fun μ σ hE=>⟨_,rfl,fun o w ho=>?_⟩⟩
  have g1:=wAW h1 hE;rw [ha] at g1
  have g2:=wAW h2 hE;rw [hb] at g2
  have g1:ev σ x'=.int k a:=g1
  have g2:ev σ y'=.int k' (kY b):=g2
  have hn:¬ (kY b) < 0:=by simp
  exact ⟨by rw [ho];rfl,by simp [execOp,ho,g1,g2,binOp,eqGuard,Op.shift];intro hb0;omega⟩
 ·cases hr2
theorem p_ixs {l:List Nat} {y:AOd} {op:Op} (hc:wTb P l y op=true):OkP P op (wOs l y):=by
 intro σA h v h' hr
 unfold wTb at hc
 split at hc <;> first | (cases hc;done) | skip
 rename_i t s y'
 simp only [nB] at hc
 obtain ⟨c1,c2,c3⟩:=hc
 obtain ⟨d,d1,d2⟩:=wBL c1
 split at d2 <;> first | (cases d2;done) | skip
 have hl:=wPP c2
 unfold wOs at hr
 split at hr
 ·rename_i k i hy
  obtain ⟨hr2,rfl⟩:=wBz hr
  split at hr2
  ·rename_i b hb
   cases hr2
   rw [wHp,<- hl,kE] at hb
   have hi:i < s.data.toList.length:=by
    rcases kv i s.data.toList.length with q | q
    ·exact q
    ·rw [kK q] at hb;cases hb
   have hi2:i < s.size:=by simpa using hi
   rw [nS hi] at hb
   have hb:(s.data.toList[i]).toNat=b:=by simpa using hb
   refine ⟨rfl,fun μ σ hE=>⟨_,rfl,fun o w ho=>?_⟩⟩
   have g:=wAW c3 hE;rw [hy] at g
   have g:ev σ y'=.int k (kY i):=g
   have hx:ev σ (.const (.string s))=.string s:=rfl
   have hrun:=run_index_string (P:=P) w t s k (kY i) d1
   rw [dif_pos ⟨by simp,by simpa using hi2⟩] at hrun
   have hbb:(s[(kY i).toNat]'(by simpa using hi2)).toNat=b:=by rw [<- hb];rfl
   rw [hbb] at hrun
   simp only [Int.ofNat_eq_natCast] at hrun
   exact ⟨by rw [ho];rfl,by simp only [execOp,ho,hx,g];simp [hrun]⟩
  ·cases hr2
 ·cases hr
theorem wRu {a:AOp} {op:Op} (hk:kdA a=3) (hc:wLv P a op=true):OkP P op (opY a tb ex exY):=by
 cases a <;> first
  | (simp [kdA] at hk;done)
  | exact p_bad | exact p_and hc | exact p_shr hc | exact p_ixs hc | exact p_mv hc | exact wVI hc | exact wVJ hc | exact p_add hc | exact p_sub hc | exact p_mul hc | exact p_quo hc | exact p_rem hc
  | exact p_lss hc | exact p_leq hc | exact p_gtr hc | exact p_geq hc | exact p_eql hc | exact p_neq hc | exact p_eqb hc | exact p_eqn hc | exact p_eqs hc
  | exact p_neg hc | exact p_not hc | exact p_cvt hc | exact p_mkf hc | exact p_slc hc | exact wVN hc | exact p_fad hc | exact p_fld hc | exact wVL hc
  | exact p_iad hc | exact wVM hc | exact p_ix hc | exact p_ixA hc | exact p_ext hc | exact p_bld hc | exact p_len hc | exact p_cap hc | exact p_min hc | exact p_max hc
theorem wKx {a:AOp} {op:Op} (hk:kdA a=1 \/ kdA a=3) (hc:wLv P a op=true):OkL C P op (opY a tb ex exY):=by
 rcases hk with hk | hk
 ·cases a <;> first
   | (simp [kdA] at hk;done)
   | exact l_ld hc | exact l_ldA hc | exact l_lk hc | exact wVX hc
 ·exact (wRu hk hc).toL
theorem wVY {a:AOp} {op:Op} (hk:kdA a=0 \/ kdA a=1 \/ kdA a=3) (hc:wLv P a op=true):OkE C P op (opY a tb ex exY):=by
 rcases hk with hk | hk
 ·cases a <;> first
   | (simp [kdA] at hk;done)
   | exact (wVP hc).toE | exact (wVQ hc).toE | exact (wVR hc).toE | exact (wVS hc).toE | exact (wRt hc).toE | exact wVW hc | exact e_app hc | exact e_apz hc | exact e_cpy hc | exact e_clr hc
 ·exact (wKx hk hc).toE
theorem wVZ {a:AOp} {op:Op} (hk:kdA a=4) (hc:wLv P a op=true):OkU C P op (opY a tb ex exY):=by
 cases a <;> first
  | (simp [kdA] at hk;done)
  | exact u_st hc | exact wVV hc
def wJX (C:Chk) (P:Program) (tb:Tr AF) (ex:Run):Prop:=∀ f args h v h',wNT tb ex f args h=some (v,h') ->
 (∀ (a:Array Value) (w:World),(callFunc (f.nat - 1) a).run P w=.ok (.enter (f.nat - 1) a) w) /\
 ∀ μ w vs,Sim C P μ h w->RvL μ args vs->Gv P (f.nat - 1) vs w fun cv w'=>∃ μ',Ext μ h.fl.nat w μ' w'/\Sim C P μ' h' w'/\Rv μ' v cv/\h'.fl=h.fl
def wIW (C:Chk) (P:Program) (ex:Run):Prop:=∀ b args h v h',wOr ex b args h=some (v,h') ->
 ∀ μ w x c,Sim C P μ h w->RvL μ args x->μ b=some c->Yd P c.1 x w fun t w'=>∃ μ',Ext μ h.fl.nat w μ' w'/\Sim C P μ' h' w'/\v=.bool t/\h'.fl=h.fl
def isAl:AOp->Bool
 | .new _ _ | .box _ _ | .mkm | .mks _ _ _ _ _ _ | .blds _ _ _ _=>true
 | _=>false
def wJz (P:Program) (N:Nat) (l:List Oper) (a:AO):Bool:=match l[a.ix]? with
 | none=>false
 | some o=>wLv P a.op o.op && ((match a.dst,o.dst with
   | none,none=>true
   | some p,some d=>nG p.nat (d + 1) && kJ d N
   | _,_=>false) && ((match a.grd,o.guard with
   | none,none=>true
   | some (p,b),some (j,b')=>(b == b') && (match (l[j]?).bind (·.dst) with | some d=>nG p.nat (d + 1) | none=>false)
   | _,_=>false) && ((match a.kd with
   | 0 | 2=>true
   | 3=>nG (kdA a.op) 3
   | 1 | 5=>nG (kdA a.op) 1 || nG (kdA a.op) 3
   | k=>nb 8 k && isAl a.op) && (!Nat.beq (kdA a.op) 4 || o.dst.isNone))))
structure AOK (P:Program) (N:Nat) (l:List Oper) (a:AO) (o:Oper):Prop where
 get:l[a.ix]?=some o
 op:wLv P a.op o.op=true
 dst:(a.dst=none/\o.dst=none) \/ ∃ p d,a.dst=some p/\o.dst=some d/\d=p.nat - 1/\d < N
 grd:(a.grd=none/\o.guard=none) \/ ∃ p b j d,a.grd=some (p,b)/\o.guard=some (j,b)/\(l[j]?).bind (·.dst)=some d/\d=p.nat - 1
 kd:(a.kd=0 \/ a.kd=2) \/ (a.kd=3/\kdA a.op=3) \/ ((a.kd=1 \/ a.kd=5)/\(kdA a.op=1 \/ kdA a.op=3)) \/ 8 <= a.kd/\isAl a.op=true
 un:kdA a.op=4->o.dst=none
theorem wKA {N:Nat} {l:List Oper} {a:AO} (hc:wJz P N l a=true):∃ o,AOK P N l a o:=by
 unfold wJz at hc
 split at hc
 ·cases hc
 ·rename_i o ho
  simp only [nB] at hc
  obtain ⟨c1,c2,c3,c4,c5⟩:=hc
  refine ⟨o,ho,c1,?_,?_,?_,?_⟩
  ·split at c2
   ·rename_i h1 h2;exact .inl ⟨h1,h2⟩
   ·rename_i p d h1 h2
    simp only [nB,nj] at c2
    have:=nD c2.1
    exact .inr ⟨p,d,h1,h2,by rw [this];rfl,c2.2⟩
   ·cases c2
  ·split at c3
   ·rename_i h1 h2;exact .inl ⟨h1,h2⟩
   ·rename_i p b j b' h1 h2
    simp only [nB,beq_iff_eq] at c3
    obtain ⟨rfl,c3⟩:=c3
    split at c3
    ·rename_i d hd
     have:=nD c3
     exact .inr ⟨p,b,j,d,h1,h2,hd,by rw [this];rfl⟩
    ·cases c3
   ·cases c3
  ·split at c4
   ·exact .inl (.inl ‹_›)
   ·exact .inl (.inr ‹_›)
   ·exact .inr (.inl ⟨‹_›,nD c4⟩)
   ·simp only [na] at c4
    exact .inr (.inr (.inl ⟨.inl ‹_›,c4.imp nD nD⟩))
   ·simp only [na] at c4
    exact .inr (.inr (.inl ⟨.inr ‹_›,c4.imp nD nD⟩))
   ·simp only [nB,kV] at c4
    exact .inr (.inr (.inr c4))
  ·intro hk;rw [hk] at c5
   simpa using c5
theorem wTc {N:Nat} {l:List Oper} {a:AO} {o:Oper} {μ:Mu} {σA:Tr AV} {σ:Env} (A:AOK P N l a o) (hE:EnvR μ σA σ):wanted l σ o=wNU σA a.grd:=by
 unfold wanted
 rcases A.grd with ⟨h1,h2⟩ | ⟨p,b,j,d,h1,h2,h3,h4⟩
 ·rw [h1,h2];rfl
 ·rw [h1,h2]
  simp only [h3]
  show _=isB b (evA σA (.t p))
  have g:=hE p
  rw [<- h4] at g
  unfold isB
  cases hv:evA σA (.t p) <;> rw [hv] at g <;> simp only [Rv] at g <;>
   first | (rw [g];done) | (obtain ⟨_,_,_,_,_,g⟩:=g;rw [g];done) | (obtain ⟨_,_,_,_,g⟩:=g;rw [g];done) | (obtain ⟨_,_,_,g⟩:=g;rw [g];done) | (obtain ⟨_,_,g⟩:=g;rw [g];done) | (obtain ⟨_,g⟩:=g;rw [g];done) | rw [g]
theorem wHK {N:Nat} {l:List Oper} {a:AO} {o:Oper} {μ:Mu} {σA:Tr AV} {σ:Env} {v:AV} {cv:Value} (A:AOK P N l a o) (hE:EnvR μ σA σ) (hv:Rv μ v cv):EnvR μ (wHH a.dst σA v) (put' σ o cv):=by
 rcases A.dst with ⟨h1,h2⟩ | ⟨p,d,h1,h2,h3,_⟩
 ·rw [h1];unfold put';rw [h2];exact hE
 ·rw [h1];unfold put';rw [h2];subst h3;exact hE.put hv
theorem wMm {N:Nat} {l:List Oper} {a:AO} {o:Oper} (A:AOK P N l a o):∀ d,o.dst=some d->d < N:=by
 intro d hd
 rcases A.dst with ⟨_,h2⟩ | ⟨p,d',_,h2,_,h4⟩
 ·rw [h2] at hd;cases hd
 ·rw [h2] at hd;cases hd;exact h4
theorem wVa (HC:wJX C P tb ex) (HY:wIW C P exY) {N:Nat} {l:List Oper} {a:AO} {o:Oper} {μ:Mu} {σA:Tr AV} {σ:Env} {h h':AH} {v:AV} {w:World} (A:AOK P N l a o) (hw:wanted l σ o=true) (hr:opY a.op tb ex exY σA h=some (v,h')) (hE:EnvR μ σA σ) (S:Sim C P μ h w) :
  Step1 P l o σ w fun cv w'=>∃ μ',Ext μ h.fl.nat w μ' w'/\Sim C P μ' h' w'/\EnvR μ' (wHH a.dst σA v) (put' σ o cv)/\h'.fl=h.fl:=by
 have hop:=A.op
 by_cases k4:kdA a.op=4
 ·obtain ⟨μ',w',h1,h2,rfl,h4,h5⟩:=wVZ (C:=C) k4 hop σA h v h' hr μ σ w hE S o rfl
  exact .inl ⟨hw,.inl ⟨A.un k4,w',h5,μ',h1,h2,wHK A (hE.mono h1.mono) (wUd μ'),h4⟩⟩
 ·by_cases k5:kdA a.op=5
  ·cases hq:a.op <;> rw [hq] at k5 <;> first | (simp [kdA] at k5;done) | skip
   rename_i x args
   rw [hq] at hop hr
   have hop:wPO x args o.op=true:=hop
   unfold wPO at hop
   split at hop <;> first | (cases hop;done) | skip
   rename_i c hoc
   obtain ⟨ce,cargs,tys⟩:=c
   simp only at hop
   split at hop <;> first | (cases hop;done) | skip
   rename_i f
   simp only [nB] at hop
   have hx:=wAW hop.1 hE
   have ha:=wHw hop.2 hE
   have hr:wJU x args tb ex exY σA h=some (v,h'):=hr
   unfold wJU at hr
   split at hr
   ·rename_i g fi ca hg
    rw [hg] at hx
    obtain ⟨fv,cv,g1,g2,g3⟩:=hx
    obtain ⟨hcall,hgv⟩:=HC _ _ _ _ _ hr
    have G:=hgv μ w _ S (wFh g1 (wFh ha g2))
    refine .inl ⟨hw,.inr (.inr (.inl ⟨_,_,_,Enters.mk (l:=cargs.toList) hoc g3 hcall rfl (by rw [nh]),G,?_⟩))⟩
    rintro cv' w' ⟨μ',h1,h2,h3,h4⟩
    exact ⟨μ',h1,h2,wHK A (hE.mono h1.mono) h3,h4⟩
   ·rename_i b hb
    rw [hb] at hx
    obtain ⟨c,g1,g2⟩:=hx
    have hy:=HY _ _ _ _ _ hr
    have Y:=hy μ w _ c S ha g1
    have R:=Yd.rounds (σ:=σ) hoc g2 rfl Y
    refine .inl ⟨hw,.inr (.inr (.inr (R.mono ?_)))⟩
    rintro cv w' ⟨t,rfl,μ',h1,h2,rfl,h4⟩
    exact ⟨μ',h1,h2,wHK A (hE.mono h1.mono) rfl,h4⟩
   ·cases hr
  ·have hk:kdA a.op=0 \/ kdA a.op=1 \/ kdA a.op=3:=by
    cases hq:a.op <;> rw [hq] at k4 k5 <;> simp [kdA] at k4 k5 ⊢
   obtain ⟨μ',w',cv,h1,h2,h3,h4,h5⟩:=wVY (C:=C) hk hop σA h v h' hr μ σ w hE S o rfl
   exact .inl ⟨hw,.inr (.inl ⟨cv,w',h5,μ',h1,h2,wHK A (hE.mono h1.mono) h3,h4⟩)⟩
theorem stepK (HC:wJX C P tb ex) (HY:wIW C P exY) {N:Nat} {l:List Oper} {a:AO} {o:Oper} {μ:Mu} {σA:Tr AV} {σ:Env} {h h':AH} {v:AV} {w:World} (A:AOK P N l a o) (hw:wanted l σ o=true) (hr:opK a.kd a.op tb ex exY σA h=some (v,h')) (hE:EnvR μ σA σ) (S:Sim C P μ h w) :
  Step1 P l o σ w fun cv w'=>(a.kd=2->Keep w w' Non)/\∃ μ',Ext μ h.fl.nat w μ' w'/\Sim C P μ' h' w'/\EnvR μ' (wHH a.dst σA v) (put' σ o cv)/\h'.fl=h.fl:=by
 by_cases k2:a.kd=2
 ·have hr:wUc a.op tb ex exY σA h=some (v,h'):=by rw [k2] at hr;exact hr
  unfold wUc at hr
  split at hr
  ·rename_i v0 h0 hq
   cases hr
   refine (wVa HC HY A hw hq hE (S.floor h.nx)).mono ?_
   rintro cv w' ⟨μ',h1,h2,h3,h4⟩
   obtain ⟨g1,g2⟩:=S.non h1 h.fl.nat
   exact ⟨fun _=>g1,μ',g2,h2.floor h.fl,h3,rfl⟩
  ·cases hr
 ·have hr:opY a.op tb ex exY σA h=some (v,h'):=by
   have hb:nG a.kd 2=false:=by
    cases hb:nG a.kd 2 with
    | false=>rfl
    | true=>exact absurd (nD hb) k2
   have:opK a.kd a.op=opY a.op:=by unfold opK;rw [hb]
   rw [this] at hr;exact hr
  exact (wVa HC HY A hw hr hE S).mono fun cv w' hq=>⟨fun e=>absurd e k2,hq⟩
def flK (k:Nat):Bool:=nG k 1 || nG k 3
end
end
open Go.RowKit Go.KL
section
variable {C:Chk} {P:Program} {tb:Tr AF} {ex exY:Run} {σ:Tr AV} {h h':AH} {v:AV}
def wKy:AOp->List AOd
 | .mv x=>[x]
 | .pick c x y=>[c] ++ [x] ++ [y]
 | .new _ _=>[]
 | .box _ x=>[x]
 | .ld x=>[x]
 | .ldA _ x=>[x]
 | .st _ x y=>[x] ++ [y]
 | .nilc x=>[x]
 | .add x y=>[x] ++ [y]
 | .sub x y=>[x] ++ [y]
 | .mul x y=>[x] ++ [y]
 | .quo x y=>[x] ++ [y]
 | .rem x y=>[x] ++ [y]
 | .lss x y=>[x] ++ [y]
 | .leq x y=>[x] ++ [y]
 | .gtr x y=>[x] ++ [y]
 | .geq x y=>[x] ++ [y]
 | .eql x y=>[x] ++ [y]
 | .neq x y=>[x] ++ [y]
 | .eqb _ x y=>[x] ++ [y]
 | .eqn _ _ x y=>[x] ++ [y]
 | .eqs _ _ x y=>[x] ++ [y]
 | .neg x=>[x]
 | .not x=>[x]
 | .cvt _ x=>[x]
 | .mkf _ fi ca=>fi ++ ca
 | .mkm =>[]
 | .mks _ _ _ _ x y=>[x] ++ [y]
 | .slc _ x lo hi mx=>[x] ++ lo.toList ++ hi.toList ++ mx.toList
 | .slcA _ _ x lo hi=>[x] ++ lo.toList ++ hi.toList
 | .fad _ x=>[x]
 | .fld _ x=>[x]
 | .fldA _ _ x=>[x]
 | .iad _ x y=>[x] ++ [y]
 | .iadA _ _ x y=>[x] ++ [y]
 | .ix _ x y=>[x] ++ [y]
 | .ixA _ _ x y=>[x] ++ [y]
 | .lk _ _ _ _ x y=>[x] ++ [y]
 | .mput _ _ x y z=>[x] ++ [y] ++ [z]
 | .mdel _ _ x y=>[x] ++ [y]
 | .ext _ x=>[x]
 | .bld _ ps=>(ps.map fun q=>q.2.2)
 | .blds _ _ _ ps=>(ps.map fun q=>q.2.2)
 | .len x=>[x]
 | .lenM x=>[x]
 | .cap x=>[x]
 | .app _ _ _ x y=>[x] ++ [y]
 | .cpy _ x y=>[x] ++ [y]
 | .clr _ x=>[x]
 | .min x y=>[x] ++ [y]
 | .max x y=>[x] ++ [y]
 | .and x y=>[x] ++ [y]
 | .shr x y=>[x] ++ [y]
 | .ixs _ y=>[y]
 | .apz _ _ _ _ x y=>[x] ++ [y]
 | .call x l=>[x] ++ l
 | .bad=>[]
theorem wHL {σ1 σ2:Tr AV}:∀ {l:List AOd},(∀ x ∈ l,evA σ1 x=evA σ2 x)->evs σ1 l=evs σ2 l
 | [],_=>rfl
 | x :: l,h=>by
  show evA σ1 x :: evs σ1 l=evA σ2 x :: evs σ2 l
  rw [h x (by simp),wHL fun y hy=>h y (by simp [hy])]
theorem wGk {σ1 σ2:Tr AV}:∀ {ps:List (Nat × Nat × AOd)} {cs:List AV},(∀ q ∈ ps,evA σ1 q.2.2=evA σ2 q.2.2)->wJo σ1 cs ps=wJo σ2 cs ps
 | [],cs,_=>rfl
 | (off,n,x) :: ps,cs,h=>by
  have e:evA σ1 x=evA σ2 x:=h (off,n,x) (by simp)
  simp only [wJo,e]
  cases nG (len (evA σ2 x).cells) n with
  | false=>rfl
  | true =>
   cases wSZ cs off (evA σ2 x).cells with
   | none=>rfl
   | some cs'=>exact wGk fun q hq=>h q (by simp [hq])
theorem wGC {σ1 σ2:Tr AV} {o:Option AOd} (h:∀ x ∈ o.toList,evA σ1 x=evA σ2 x):bnd σ1 o=bnd σ2 o:=by
 cases o with
 | none=>rfl
 | some x =>
  have e:=h x (by simp)
  simp only [bnd,e]
theorem wPQ {σ1 σ2:Tr AV} (op:AOp) (h:∀ x ∈ wKy op,evA σ1 x=evA σ2 x) (hh:AH):opY op tb ex exY σ1 hh=opY op tb ex exY σ2 hh:=by
  cases op with
  | bld z ps=>exact (show wOn z ps σ1 hh=wOn z ps σ2 hh by simp only [wOn];rw [wGk fun q hq=>h q.2.2 (nc.2 ⟨q,hq,rfl⟩)])
  | blds T n z ps=>exact (show wIM T n z ps σ1 hh=wIM T n z ps σ2 hh by simp only [wIM];rw [wGk fun q hq=>h q.2.2 (nc.2 ⟨q,hq,rfl⟩)])
  | mkf f fi ca=>exact (show wNS f fi ca σ1 hh=wNS f fi ca σ2 hh by simp only [wNS];rw [wHL fun x hx=>h x (nl _ hx),wHL fun x hx=>h x (nu _ hx)])
  | call x l=>exact (show wJU x l tb ex exY σ1 hh=wJU x l tb ex exY σ2 hh by simp only [wJU];rw [h x (nl _ (by simp)),wHL fun y hy=>h y (nu _ hy)])
  | slc sz x lo hi mx=>exact (show wLn sz x lo hi mx σ1 hh=wLn sz x lo hi mx σ2 hh by
      simp only [wLn]
      rw [h x (by simp [wKy]),wGC fun y hy=>h y (by simp only [wKy,nM];exact .inl (.inl (.inr hy))),wGC fun y hy=>h y (by simp only [wKy,nM];exact .inl (.inr hy)),wGC fun y hy=>h y (by simp only [wKy,nM];exact .inr hy)])
  | slcA sz n x lo hi=>exact (show wIL sz n x lo hi σ1 hh=wIL sz n x lo hi σ2 hh by
      simp only [wIL]
      rw [h x (by simp [wKy]),wGC fun y hy=>h y (by simp only [wKy,nM];exact .inl (.inr hy)),wGC fun y hy=>h y (by simp only [wKy,nM];exact .inr hy)])
  | _=>first
    | rfl
    | (simp only [wKy,kH,kO,nW,List.not_mem_nil,or_false,forall_eq_or_imp,forall_eq] at h
       dsimp only [opY]
       simp only [o_mv,wKn,wSb,o_ld,wQj,o_st,wKo,wSc,wSd,wSe,wSf,wSg,wSh,wSi,wSj,wSk,wSl,wSm,wOc,wOd,wOe,wSn,wOf,wOg,wOh,wOi,wOj,wKp,wOk,wKq,wVD,wOl,o_lk,wMb,wMc,wOm,wOo,wMd,wOp,wQk,wQl,wQm,wSo,wSp,wSr,wOs,wQn,wSs,h])
theorem wLw {o:Option AV} (hr:okV h o=some (v,h')) (h2:AH):okV h2 o=some (v,h2):=by
 cases o with
 | none=>cases hr
 | some x=>cases hr;rfl
theorem wTd {b:Bool} {x:AV} (hr:ifO b (some (x,h))=some (v,h')) (h2:AH):ifO b (some (x,h2))=some (v,h2):=by
 cases b with
 | true=>cases hr;rfl
 | false=>cases hr
theorem wTe {b:Bool} {o:Option AV} (hr:ifO b (okV h o)=some (v,h')) (h2:AH):ifO b (okV h2 o)=some (v,h2):=by
 cases b with
 | true=>exact wLw hr h2
 | false=>cases hr
theorem wRv (op:AOp) (hk:kdA op=3) (hr:opY op tb ex exY σ h=some (v,h')) (h2:AH):opY op tb ex exY σ h2=some (v,h2):=by
  cases op <;> first
    | (simp [kdA] at hk;done)
    | (dsimp only [opY] at hr ⊢
       first
        | exact wLw hr h2
        | (simp only [o_mv,wKn,wKo,wOc,wOd,wOe,wOf,wOg,wNS,wLn,wIL,wOi,wOj,wKp,wOk,wKq,wVD,wOl,wOm,wOo,wOp,wSt,wOs] at hr ⊢
           repeat' (split at hr)
           all_goals first
             | exact wLw hr h2
             | (cases hr;rfl)
             | (cases hr;done)
             | exact wTd hr h2
             | exact wTe hr h2))
theorem wVb {a:AOp} {op:Op} (hk:isAl a=true) (hc:wLv P a op=true):OkA C P op (opY a tb ex exY):=by
 cases a <;> first
  | (simp [isAl] at hk;done)
  | exact wVP hc | exact wVQ hc | exact wVR hc | exact wVS hc | exact wRt hc
theorem Tr.one_set {α:Type}:∀ {p q:Pos} {a b:α},p ≠ q->(Tr.one p a).set q b=(Tr.one q b).set p a
 | .H,.H,_,_,h=>absurd rfl h
 | .H,.O q,a,b,_=>rfl
 | .H,.I q,a,b,_=>rfl
 | .O p,.H,a,b,_=>rfl
 | .I p,.H,a,b,_=>rfl
 | .O p,.I q,a,b,_=>rfl
 | .I p,.O q,a,b,_=>rfl
 | .O p,.O q,a,b,h=>by simp only [Tr.one_O,Tr.set_O];rw [Tr.one_set fun e=>h (by rw [e])]
 | .I p,.I q,a,b,h=>by simp only [Tr.one_I,Tr.set_I];rw [Tr.one_set fun e=>h (by rw [e])]
theorem Tr.set_comm {α:Type}:∀ {t:Tr α} {p q:Pos} {a b:α},p ≠ q->(t.set p a).set q b=(t.set q b).set p a
 | .e,p,q,a,b,h=>by rw [Tr.set_e,Tr.set_e,Tr.one_set h]
 | .n l v r,.H,.H,_,_,h=>absurd rfl h
 | .n l v r,.H,.O q,a,b,_=>rfl
 | .n l v r,.H,.I q,a,b,_=>rfl
 | .n l v r,.O p,.H,a,b,_=>rfl
 | .n l v r,.I p,.H,a,b,_=>rfl
 | .n l v r,.O p,.I q,a,b,_=>rfl
 | .n l v r,.I p,.O q,a,b,_=>rfl
 | .n l v r,.O p,.O q,a,b,h=>by simp only [Tr.set_O];rw [Tr.set_comm fun e=>h (by rw [e])]
 | .n l v r,.I p,.I q,a,b,h=>by simp only [Tr.set_I];rw [Tr.set_comm fun e=>h (by rw [e])]
theorem wGD (p:Pos) (n:Nat):(adv p n).nat=p.nat + n:=by
 induction n with
 | zero=>rfl
 | succ n ih=>show (adv p n).succ.nat=_;rw [Pos.nat_succ,ih];omega
def rdT (d:Option Pos) (l:List AOd):Bool:=l.any fun x=>match x with
 | .t q=>decide (d=some q)
 | _=>false
theorem wLx {d:Option Pos} {x:AV} {l:List AOd} (hn:rdT d l=false):∀ a ∈ l,evA (wHH d σ x) a=evA σ a:=by
 intro a ha
 cases d with
 | none=>rfl
 | some p =>
  cases a with
  | c _=>rfl
  | t q =>
   have:¬ some p=some q:=fun e=>by
    have:=List.any_eq_false.1 hn _ ha
    simp [e] at this
   have hq:q ≠ p:=fun e=>this (by rw [e])
   show kP (motive:=fun _=>AV) u (fun v=>v) ((σ.set p x).get q)=kP (motive:=fun _=>AV) u (fun v=>v) (σ.get q)
   rw [Tr.get_set,if_neg hq]
theorem wHd {d:Option Pos} {x:AV} {op:AOp} (hn:rdT d (wKy op)=false):opY op tb ex exY (wHH d σ x) h=opY op tb ex exY σ h:=wPQ op (wLx hn) h
theorem wPR {d:Option Pos} {x:AV} {q:Pos} {o:AO} (hn:rdT d (wKy o.op)=false):opP q o tb ex exY (wHH d σ x) h=opP q o tb ex exY σ h:=by
 unfold opP opN opK
 cases nb 8 o.kd
 ·cases nG o.kd 2
  ·exact wHd hn
  ·show wUc o.op tb ex exY _ h=wUc o.op tb ex exY _ h
   unfold wUc;rw [wHd hn]
 ·show kP (motive:=fun _=>Option (AV × AH)) none _ (opY o.op tb ex exY (wHH d σ x) _)=kP (motive:=fun _=>Option (AV × AH)) none _ (opY o.op tb ex exY σ _)
  rw [wHd hn]
theorem wKz {d e:Option Pos} {x y:AV} (hn:d=none \/ e=none \/ d ≠ e):wHH d (wHH e σ y) x=wHH e (wHH d σ x) y:=by
 cases d with
 | none=>rfl
 | some p =>
  cases e with
  | none=>rfl
  | some q =>
   refine Tr.set_comm fun e=>?_
   rcases hn with h | h | h
   ·cases h
   ·cases h
   ·exact h (by rw [e])
theorem wGO {q:Pos} {op:AOp}:opN q op tb ex exY σ h=some (v,h') ↔ ∃ h1 B,opY op tb ex exY σ ⟨.e,q,h.fl⟩=some (v,h1)/\h1.m.get q=some B/\h'=⟨h.m.set q B,h.nx,h.fl⟩:=by
 unfold opN
 cases opY op tb ex exY σ ⟨.e,q,h.fl⟩ with
 | none=>exact ⟨fun e=>(by cases e),fun ⟨_,_,e,_⟩=>(by cases e)⟩
 | some r =>
  obtain ⟨v1,h1⟩:=r
  show putN h q (v1,h1)=_ ↔ _
  unfold putN
  cases hg:h1.m.get q with
  | none=>exact ⟨fun e=>(by simp only [hg] at e;cases e),fun ⟨_,_,e,g,_⟩=>(by cases e;rw [hg] at g;cases g)⟩
  | some B=>exact ⟨fun e=>(by simp only [hg] at e;cases e;exact ⟨_,B,rfl,hg,rfl⟩),fun ⟨_,_,e,g,e2⟩=>(by cases e;rw [hg] at g;cases g;subst e2;simp only [hg])⟩
theorem wIX {q:Pos} {o:AO} (hk:nb 8 o.kd=false) (h2:o.kd ≠ 2):opP q o tb ex exY σ h=opY o.op tb ex exY σ h:=by
 unfold opP opK
 rw [hk]
 cases hb:nG o.kd 2 with
 | false=>rfl
 | true=>exact absurd (nD hb) h2
theorem wMn {q:Pos} {o:AO} (hk:nb 8 o.kd=true):opP q o tb ex exY σ h=opN (adv q (o.kd - 8)) o.op tb ex exY σ h:=by
 unfold opP
 rw [hk]
 rfl
theorem wVc {a b:AV} (h:eqv a b=true):a=b:=by
 unfold eqv at h
 split at h <;> first | (cases h;done) | skip
 ·rw [nB] at h;rw [wBw h.1,wKt.1 h.2]
 ·rw [nB] at h;rw [Pos.beq_eq h.1,nD h.2]
 ·rw [Pos.beq_eq h]
def Sep (c o:AO):Prop:=c.kd=5->rdT o.dst (wKy c.op)=false/\(c.dst=none \/ o.dst=none \/ c.dst ≠ o.dst)
def wVd (b x:AO):Bool :=
 (((wQo x.kd || nG x.kd 5) && (nG b.kd 3 || (nG b.kd 5 && !rdT b.dst (wKy b.op)))) || (nb 8 x.kd && (nG b.kd 3 || (nb 8 b.kd && !Nat.beq b.kd x.kd)))) &&
 (x.grd.isNone && (b.grd.isNone && (!rdT b.dst (wKy x.op) && (!rdT x.dst (wKy b.op) && decide (b.dst=none \/ x.dst=none \/ b.dst ≠ x.dst)))))
theorem wQv {c:AO} {d:Option Pos} {x:AV} (h1:rdT d (wKy c.op)=false) (h2:c.dst=none \/ d=none \/ c.dst ≠ d):wRq c tb ex exY (wHH d σ x) h=wRq c tb ex exY σ h:=by
 unfold wRq
 rw [wHd h1]
 cases hc:c.dst with
 | none=>rfl
 | some p =>
  cases d with
  | none=>rfl
  | some p' =>
   have:evA (wHH (some p') σ x) (.t p)=evA σ (.t p):=wLx (l:=[.t p]) (by
    simp only [rdT,km,List.any_nil,Bool.or_false,decide_eq_false_iff_not]
    rcases h2 with h2 | h2 | h2
    ·rw [hc] at h2;cases h2
    ·cases h2
    ·intro e;exact h2 (by rw [hc,e])) _ (.head _)
   cases opY c.op tb ex exY σ h with
   | none=>rfl
   | some r=>obtain ⟨v,_⟩:=r;show eqv v _=eqv v _;rw [this]
theorem wPS {b x c:AO} {acc:List AO}:c ∈ wLp b (wLp x acc)->c ∈ wLp x (wLp b acc):=by
 unfold wLp
 cases nG b.kd 5 <;> cases nG x.kd 5 <;> simp only [cond_true,cond_false,nW,imp_self]
 rintro (h | h | h)
 ·exact .inr (.inl h)
 ·exact .inl h
 ·exact .inr (.inr h)
theorem wKB {q:Pos} {r:Tr AV × AH}:∀ (os acc acc':List AO) (σ:Tr AV) (h:AH),(∀ c,c ∈ acc'->c ∈ acc)->wKr q tb ex exY os acc σ h=some r->wKr q tb ex exY os acc' σ h=some r
 | [],_,_,_,_,_,hr=>hr
 | o :: os,acc,acc',σ,h,hs,hr=>by
  rcases wDN.1 hr with ⟨hw,hr⟩ | ⟨hw,v,h1,e1,e2,hr⟩
  ·exact wDN.2 (.inl ⟨hw,wKB os _ _ _ _ hs hr⟩)
  ·refine wDN.2 (.inr ⟨hw,v,h1,e1,?_,wKB os _ _ _ _ (fun c hc=>?_) hr⟩)
   ·unfold wLo at e2 ⊢
    cases hf:wQo o.kd with
    | false=>rfl
    | true =>
     rw [hf,np,ng,nB,nH (l:=acc)] at e2
     rw [np,ng,nB,nH (l:=acc')]
     exact ⟨e2.1,fun c hc=>e2.2 c (hs c hc)⟩
   ·unfold wLp at hc ⊢
    cases e5:nG o.kd 5 with
    | false=>rw [e5] at hc;exact hs c hc
    | true =>
     rw [e5] at hc
     exact (nW.1 hc).elim (fun e=>e ▸ .head _) fun hc=>.tail _ (hs c hc)
theorem exch1 {N:Nat} {l:List Oper} {b x:AO} {R acc:List AO} {q:Pos} {r:Tr AV × AH} (hb:wJz P N l b=true) (hx:wJz P N l x=true) (hj:wVd b x=true) (hA:∀ c ∈ acc,c.kd=5/\Sep c b)
  (hr:wKr q tb ex exY (b :: x :: R) acc σ h=some r):wKr q tb ex exY (x :: b :: R) acc σ h=some r:=by
 obtain ⟨ob,B⟩:=wKA hb
 obtain ⟨ox,X⟩:=wKA hx
 unfold wVd at hj
 simp only [nB,na,ki,kV,Option.isNone_iff_eq_none,ni,decide_eq_true_eq] at hj
 obtain ⟨hk,gx,gb,n1,n2,n3⟩:=hj
 rcases wDN.1 hr with ⟨hw,_⟩ | ⟨_,vb,h1,hob,hs1,hr⟩
 ·rw [gb] at hw;cases hw
 rcases wDN.1 hr with ⟨hw,_⟩ | ⟨_,vx,h2,hox,hs,hr⟩
 ·rw [gx] at hw;cases hw
 rw [wPR n1] at hox
 have n4:x.dst=none \/ b.dst=none \/ x.dst ≠ b.dst:=n3.elim (fun e=>.inr (.inl e)) fun e=>e.elim .inl fun e=>.inr (.inr e.symm)
 have pure3:∀ {a:AO} {o:Oper} {σ:Tr AV} {h h1:AH} {v:AV},AOK P N l a o->a.kd=3->opP q a tb ex exY σ h=some (v,h1)->h1=h/\∀ h2,opP q a tb ex exY σ h2=some (v,h2):=fun {a o σ h h1 v} A e ho=>by
  have k3:kdA a.op=3:=by
   rcases A.kd with (e | e) | ⟨_,e⟩ | ⟨e | e,_⟩ | ⟨e,_⟩ <;> first | exact e | omega
  have e8:nb 8 a.kd=false:=by rw [e];rfl
  rw [wIX e8 (by omega)] at ho
  have e1:=wRv _ k3 ho h
  rw [ho] at e1;cases e1
  exact ⟨rfl,fun h2=>by rw [wIX e8 (by omega)];exact wRv _ k3 ho h2⟩
 have key:∃ h1',opP q x tb ex exY σ h=some (vx,h1')/\opP q b tb ex exY σ h1'=some (vb,h2)/\wLo x.kd (b :: R) acc tb ex exY (wHH x.dst σ vx) h1'=true/\wQo b.kd=false:=by
  have nf:∀ {k:Nat},3 <= k->wQo k=false:=fun {k} e=>by
   unfold wQo
   cases e0:nG k 0 <;> cases e2:nG k 2 <;> first | rfl | (simp only [ki] at e0 e2;omega)
  have ldk:∀ {a:AO} {o:Oper} {σ:Tr AV} {h h1:AH} {v:AV},AOK P N l a o->a.kd=5->opP q a tb ex exY σ h=some (v,h1)->h1=h/\opY a.op tb ex exY σ h=some (v,h):=fun {a o σ h h1 v} A e ho=>by
   have kL:kdA a.op=1 \/ kdA a.op=3:=by
    rcases A.kd with (e | e) | ⟨e,_⟩ | ⟨_,e⟩ | ⟨e,_⟩ <;> first | exact e | omega
   rw [wIX (by rw [e];rfl) (by omega)] at ho
   obtain ⟨e1,_⟩:=wKx (C:=fun _ _ _=>True) kL A.op _ _ _ _ ho
   subst e1
   exact ⟨rfl,ho⟩
  rcases hk with ⟨hf | hx5,hk⟩ | ⟨hf,hk⟩
  ·have hx5:x.kd ≠ 5:=fun e=>by rw [e] at hf;cases hf
   have hx8:x.kd < 8:=by
    unfold wQo at hf
    simp only [na,ki] at hf
    omega
   have st:∀ {R:List AO} {σ:Tr AV} {h:AH},((R.all fun x=>kJ x.kd 8)=true/\(acc.all fun c=>wRq c tb ex exY σ h)=true)->wLo x.kd R acc tb ex exY σ h=true:=fun e=>by
    unfold wLo;rw [hf,np,ng,nB];exact e
   unfold wLo at hs
   rw [hf,np,ng,nB] at hs
   have hs':(acc.all fun c=>wRq c tb ex exY (wHH x.dst σ vx) h2)=true:=by
    rw [nH]
    intro c hc
    have hm:c ∈ wLp b acc:=by
     unfold wLp
     cases nG b.kd 5
     ·exact hc
     ·exact .tail _ hc
    have:=nH.1 hs.2 c hm
    obtain ⟨a1,a2⟩:=(hA c hc).2 (hA c hc).1
    rw [wKz n4,wQv a1 a2] at this
    exact this
   have hb8:b.kd < 8:=by omega
   rcases hk with hk | ⟨hk,hself⟩
   ·obtain ⟨rfl,g⟩:=pure3 B hk hob
    exact ⟨h2,hox,g h2,st ⟨by rw [kG,hs.1,ko];rw [nj];exact hb8,hs'⟩,nf (by omega)⟩
   ·have kL:kdA b.op=1 \/ kdA b.op=3:=by
     rcases B.kd with (e | e) | ⟨e,_⟩ | ⟨_,e⟩ | ⟨e,_⟩ <;> first | exact e | omega
    have e8:nb 8 b.kd=false:=by rw [hk];rfl
    rw [wIX e8 (by omega)] at hob
    obtain ⟨e1,_⟩:=wKx (C:=fun _ _ _=>True) kL B.op _ _ _ _ hob
    subst e1
    refine ⟨h2,hox,?_,st ⟨by rw [kG,hs.1,ko];rw [nj];exact hb8,hs'⟩,nf (by omega)⟩
    have hl:wRq b tb ex exY (wHH x.dst (wHH b.dst σ vb) vx) h2=true:=nH.1 hs.2 b (by unfold wLp;rw [hk];exact .head _)
    rw [wIX e8 (by omega)]
    unfold wRq at hl
    rw [wHd n2,wHd hself] at hl
    split at hl
    ·rename_i p v' h' hp e2
     obtain ⟨e1,_⟩:=wKx (C:=fun _ _ _=>True) kL B.op _ _ _ _ e2
     subst e1
     have ev1:evA (wHH x.dst (wHH b.dst σ vb) vx) (.t p)=vb:=by
      rw [wLx (l:=[.t p]) (by
       simp only [rdT,km,List.any_nil,Bool.or_false,decide_eq_false_iff_not]
       intro e
       rcases n3 with e3 | e3 | e3
       ·rw [hp] at e3;cases e3
       ·rw [e3] at e;cases e
       ·exact e3 (by rw [hp,e])) _ (.head _),hp]
      show kP (motive:=fun _=>AV) u (fun v=>v) ((σ.set p vb).get p)=vb
      rw [Tr.get_set,if_pos rfl]
     rw [ev1] at hl
     rw [e2,wVc hl]
    ·cases hl
  ·have hst:wLo x.kd (b :: R) acc tb ex exY (wHH x.dst σ vx) h=true:=by
    unfold wLo;rw [nf (by omega)];rfl
   have e8:nb 8 x.kd=false:=by rw [hx5];rfl
   rcases hk with hk | ⟨hk,_⟩
   ·obtain ⟨rfl,g⟩:=pure3 B hk hob
    obtain ⟨rfl,_⟩:=ldk X hx5 hox
    exact ⟨_,hox,hob,hst,nf (by omega)⟩
   ·obtain ⟨rfl,_⟩:=ldk B hk hob
    obtain ⟨rfl,_⟩:=ldk X hx5 hox
    exact ⟨_,hox,hob,hst,nf (by omega)⟩
  ·have e8:nb 8 x.kd=true:=kM hf
   have hx5:x.kd ≠ 5:=by omega
   have hst:∀ {R:List AO} {σ:Tr AV} {h:AH},wLo x.kd R acc tb ex exY σ h=true:=by
    intro R σ h
    unfold wLo;rw [nf (by omega)];rfl
   rw [wMn e8] at hox ⊢
   obtain ⟨hx0,Bx,g1,g2,rfl⟩:=wGO.1 hox
   rcases hk with hk | ⟨hk,hne⟩
   ·obtain ⟨rfl,g⟩:=pure3 B hk hob
    exact ⟨_,wGO.2 ⟨hx0,Bx,g1,g2,rfl⟩,g _,hst,nf (by omega)⟩
   ·have f8:nb 8 b.kd=true:=kM hk
    rw [wMn f8] at hob
    obtain ⟨hb0,Bb,f1,f2,rfl⟩:=wGO.1 hob
    refine ⟨_,wGO.2 ⟨hx0,Bx,g1,g2,rfl⟩,?_,hst,nf (by omega)⟩
    rw [wMn f8]
    refine wGO.2 ⟨hb0,Bb,f1,f2,?_⟩
    simp only [AH.mk.injEq,and_true]
    refine Tr.set_comm fun e=>?_
    have:=congrArg Pos.nat e
    rw [wGD,wGD] at this
    have:b.kd=x.kd:=by omega
    rw [this] at hne
    simp at hne
 obtain ⟨h1',a1,a2,a3,a4⟩:=key
 refine wDN.2 (.inr ⟨by rw [gx];rfl,vx,h1',a1,a3,wDN.2 (.inr ⟨by rw [gb];rfl,vb,h2,by rw [wPR n2];exact a2,by unfold wLo;rw [a4];rfl,by rw [wKz n3];exact wKB _ _ _ _ _ (fun _=>wPS) hr⟩)⟩)
theorem exch {N:Nat} {l:List Oper} {x:AO} {post:List AO} {q:Pos} {r:Tr AV × AH} (hx:wJz P N l x=true):∀ (pre acc:List AO) (σ:Tr AV) (h:AH),(∀ b ∈ pre,wJz P N l b=true)->(pre.all fun b=>wVd b x)=true->pre.Pairwise Sep->(∀ c ∈ acc,c.kd=5/\∀ b ∈ pre,Sep c b) ->
  wKr q tb ex exY (pre ++ x :: post) acc σ h=some r->wKr q tb ex exY (x :: (pre ++ post)) acc σ h=some r
 | [],_,_,_,_,_,_,_,hr=>hr
 | b :: pre,acc,σ,h,hb,hj,hp,hA,hr=>by
  simp only [kG,nB] at hj
  have hp:=nV.1 hp
  have hA':∀ c ∈ wLp b acc,c.kd=5/\∀ b ∈ pre,Sep c b:=fun c hc=>by
   unfold wLp at hc
   cases e5:nG b.kd 5 with
   | false=>rw [e5] at hc;exact ⟨(hA c hc).1,fun y hy=>(hA c hc).2 y (.tail _ hy)⟩
   | true =>
    rw [e5] at hc
    rcases nW.1 hc with rfl | hc
    ·exact ⟨nD e5,hp.1⟩
    ·exact ⟨(hA c hc).1,fun y hy=>(hA c hc).2 y (.tail _ hy)⟩
  refine exch1 (hb b (.head _)) hx hj.1 (fun c hc=>⟨(hA c hc).1,(hA c hc).2 b (.head _)⟩) ?_
  rcases wDN.1 hr with ⟨hw,hr⟩ | ⟨hw,v,h1,e1,e2,hr⟩
  ·exact wDN.2 (.inl ⟨hw,exch hx pre acc _ _ (fun c hc=>hb c (.tail _ hc)) hj.2 hp.2 (fun c hc=>⟨(hA c hc).1,fun y hy=>(hA c hc).2 y (.tail _ hy)⟩) hr⟩)
  ·refine wDN.2 (.inr ⟨hw,v,h1,e1,?_,exch hx pre _ _ _ (fun c hc=>hb c (.tail _ hc)) hj.2 hp.2 hA' hr⟩)
   unfold wLo at e2 ⊢
   cases hf:wQo b.kd with
   | false=>rfl
   | true =>
    rw [hf,np,ng,nB,nH] at e2
    rw [np,ng,nB,nH]
    refine ⟨fun y hy=>e2.1 y ?_,e2.2⟩
    rcases nW.1 hy with rfl | hy
    ·exact nu _ (.head _)
    ·exact (nM.1 hy).elim (nl _) fun hy=>nu _ (.tail _ hy)
end
def kk (k:Nat):Nat:=bif nG k 5 || nb 8 k then 2 else k
def can (d:Bool) (l:List Oper) (pre:List AO) (x:AO):Bool :=
 pre.isEmpty || (d && ((pre.all fun b=>wVd b x) && ((prI l x.ix).all fun p=>pre.all fun y=>!Nat.beq y.ix p)))
def wVe (d:Bool) (l:List Oper) (f:List AO->Sch):List AO->List AO->Sch
 | _,[]=>.stop
 | pre,x :: post=>bif !flK x.kd && can d l pre x then .fx x.ix (f (pre ++ post)) (wVe d l f (pre ++ [x]) post) else wVe d l f (pre ++ [x]) post
def wPT (d:Bool) (l:List Oper):Nat->List AO->Sch
 | 0,_=>.nil
 | _,[]=>.nil
 | n + 1,x :: r=>bif flK x.kd then .fl x.ix (wPT d l n r) else wVe d l (wPT d l n) [] (x :: r)
def wPU (a b:AO):Prop:=8 <= a.kd->a.kd ≠ b.kd
section
variable {C:Chk} {P:Program} {tb:Tr AF} {ex exY:Run} {d:Bool} {l:List Oper}
theorem okP (HC:wJX C P tb ex) (HY:wIW C P exY) {N:Nat} {ks:List Nat} {Q:wDx} {D:List Deferred} {q:Pos}:∀ (n:Nat) (os acc:List AO) (σA:Tr AV) (h:AH) (σA':Tr AV) (h':AH),os.length=n->wKr q tb ex exY os acc σA h=some (σA',h') ->
  (∀ a ∈ os,wJz P N l a=true/\kOf ks a.ix=kk a.kd)->os.Pairwise wPU->os.Pairwise Sep->(∀ c ∈ acc,c.kd=5/\∀ b ∈ os,Sep c b)->∀ (μ:Mu) (σ:Env) (w:World),(∀ a ∈ os,8 <= a.kd->μ (adv q (a.kd - 8))=none/\(adv q (a.kd - 8)).nat < h.nx.nat)->Sim C P μ h w->EnvR μ σA σ ->
  (∀ μ' w' σ',Ext μ h.fl.nat w μ' w'->Sim C P μ' h' w'->EnvR μ' σA' σ'->h'.fl=h.fl->Q D .normal σ' w')->OKS N P l Q D ks (wPT d l n os) σ w
 | 0,os,acc,σA,h,σA',h',hn,hr,_,_,_,_,μ,σ,w,_,S,hE,hQ=>by
  rw [List.length_eq_zero_iff.1 hn] at hr
  cases hr
  exact hQ μ w σ (Ext.refl μ _ w) S hE rfl
 | n + 1,os,acc,σA,h,σA',h',hn,hr,hc,hd,hsp,hA,μ,σ,w,hf,S,hE,hQ=>by
  have stp:∀ x r,os.Perm (x :: r)->(x :: r).Pairwise Sep->wKr q tb ex exY (x :: r) acc σA h=some (σA',h')->(flK x.kd=true->OKS N P l Q D ks (.fl x.ix (wPT d l n r)) σ w) /\
    (flK x.kd=false->∃ o,l[x.ix]?=some o/\(∀ d,o.dst=some d->d < N)/\Step1 P l o σ w fun v w'=>KeepD l ks x.ix w w'/\OKS N P l Q D ks (wPT d l n r) (put' σ o v) w'):=by
   intro x r hp hxr hr
   have hlen:r.length=n:=by have:=hp.length_eq;simp only [nY] at this;omega
   have hcx:=hc x (hp.mem_iff.2 (.head _))
   have hcr:∀ a ∈ r,wJz P N l a=true/\kOf ks a.ix=kk a.kd:=fun a ha=>hc a (hp.mem_iff.2 (.tail _ ha))
   have hdp:=nV.1 ((hp.pairwise_iff fun {a b} h1 h2 e=>h1 (by rw [<- e];exact h2) e.symm).1 hd)
   have hfr:∀ a ∈ r,8 <= a.kd->μ (adv q (a.kd - 8))=none/\(adv q (a.kd - 8)).nat < h.nx.nat:=fun a ha=>hf a (hp.mem_iff.2 (.tail _ ha))
   have hsr:=nV.1 hxr
   have hAr:∀ c ∈ acc,c.kd=5/\∀ b ∈ r,Sep c b:=fun c hm=>⟨(hA c hm).1,fun b hb=>(hA c hm).2 b (hp.mem_iff.2 (.tail _ hb))⟩
   obtain ⟨o,A⟩:=wKA hcx.1
   have hk:=hcx.2
   have hw:=wTc A hE
   rcases wDN.1 hr with ⟨hwa,hr⟩ | ⟨hwa,v,h1,hop,hs,hr⟩
   ·rw [hwa] at hw
    have K:=okP HC HY n r acc _ h σA' h' hlen hr hcr hdp.2 hsr.2 hAr μ (put' σ o undef) w hfr S (wHK A hE (wUd μ)) hQ
    exact ⟨fun _=>⟨o,A.get,wMm A,.inr ⟨hw,K⟩⟩,fun _=>⟨o,A.get,wMm A,.inr ⟨hw,KeepD.refl l ks _ w,K⟩⟩⟩
   ·rw [hwa] at hw
    have hAn:∀ c ∈ wLp x acc,c.kd=5/\∀ b ∈ r,Sep c b:=fun c hm=>by
     unfold wLp at hm
     cases e5:nG x.kd 5 with
     | false=>rw [e5] at hm;exact hAr c hm
     | true =>
      rw [e5] at hm
      rcases nW.1 hm with rfl | hm
      ·exact ⟨nD e5,hsr.1⟩
      ·exact hAr c hm
    have next:∀ μ1 σ1 w1,Ext μ h.fl.nat w μ1 w1->Sim C P μ1 h1 w1->EnvR μ1 (wHH x.dst σA v) σ1->h1.fl=h.fl->(∀ a ∈ r,8 <= a.kd->μ1 (adv q (a.kd - 8))=none/\(adv q (a.kd - 8)).nat < h1.nx.nat)->OKS N P l Q D ks (wPT d l n r) σ1 w1 :=
     fun μ1 σ1 w1 E1 S1 hE1 e1 hf1=>okP HC HY n r _ _ h1 σA' h' hlen hr hcr hdp.2 hsr.2 hAn μ1 σ1 w1 hf1 S1 hE1 fun μ' w' σ' r1 r2 r3 r4=>by
      rw [e1] at r1 r4
      exact hQ μ' w' σ' (E1.trans r1) r2 r3 r4
    have ld:(x.kd=1 \/ x.kd=5) \/ x.kd=3->kdA x.op=1 \/ kdA x.op=3->h1=h/\∃ cv,Rv μ v cv/\RunsK P σ w o cv:=fun e hL=>by
     rw [wIX (by rcases e with (e | e) | e <;> rw [e] <;> rfl) (by omega)] at hop
     obtain ⟨e1,hh⟩:=wKx (C:=C) hL A.op σA h v h1 hop
     obtain ⟨cv,g1,g2⟩:=hh μ σ w hE S
     exact ⟨e1,cv,g1,g2 o rfl⟩
    constructor
    ·intro hfl
     refine ⟨o,A.get,wMm A,.inl ⟨hw,?_⟩⟩
     unfold flK at hfl
     simp only [na,ki] at hfl
     rcases A.kd with e | ⟨e,k3⟩ | ⟨e,hL⟩ | ⟨e,_⟩
     ·omega
     ·have e8:nb 8 x.kd=false:=by rw [e];rfl
      have hop':=hop
      rw [wIX e8 (by omega)] at hop'
      obtain ⟨e1,hp⟩:=wRu (tb:=tb) (ex:=ex) (exY:=exY) k3 A.op σA h v h1 hop'
      subst e1
      obtain ⟨cv,g1,g2⟩:=hp μ σ hE
      exact ⟨cv,fun w' _=>g2 o w' rfl,⟨fun _ w'=>g2 o w' rfl,fun _ w' _=>g2 o w' rfl⟩,next μ _ w (Ext.refl μ _ w) S (wHK A hE g1) rfl hfr⟩
     ·obtain ⟨e1,cv,g1,g2⟩:=ld (.inl e) hL
      subst e1
      have e1:x.kd=1:=by omega
      rw [hk,e1]
      exact ⟨cv,g2,⟨fun e=>(by cases e),fun e=>(by cases e)⟩,next μ _ w (Ext.refl μ _ w) S (wHK A hE g1) rfl hfr⟩
     ·omega
    ·intro hfl
     refine ⟨o,A.get,wMm A,?_⟩
     have nk:∀ w',Keep w w' Non->kk x.kd=2->KeepD l ks x.ix w w':=fun w' k e2=>⟨fun _=>k,fun e=>by rw [hk,e2] at e;cases e⟩
     rcases A.kd with e | ⟨e,_⟩ | ⟨e | e,hL⟩ | ⟨e,hal⟩
     ·have e8:nb 8 x.kd=false:=by rcases e with e | e <;> rw [e] <;> rfl
      have hop:opK x.kd x.op tb ex exY σA h=some (v,h1):=by unfold opP at hop;rw [e8] at hop;exact hop
      have hx:wQo x.kd=true:=by rcases e with e | e <;> rw [e] <;> rfl
      have ekk:kk x.kd=x.kd:=by rcases e with e | e <;> rw [e] <;> rfl
      unfold wLo at hs
      rw [hx,np,ng,nB,nH] at hs
      refine (stepK HC HY A hw hop hE S).mono ?_
      rintro cv w1 ⟨q0,μ1,q1,q2,q3,q4⟩
      refine ⟨⟨fun e2=>q0 (by rw [hk,ekk] at e2;exact e2),fun e2=>by rw [hk,ekk] at e2;omega⟩,next μ1 _ w1 q1 q2 q3 q4 fun a ha e9=>?_⟩
      have:=hs.1 a ha
      rw [nj] at this
      omega
     ·rw [e] at hfl;cases hfl
     ·rw [e] at hfl;cases hfl
     ·obtain ⟨e1,cv,g1,g2⟩:=ld (.inl (.inr e)) hL
      subst e1
      exact .inl ⟨hw,.inr (.inl ⟨cv,w,g2 w (Keep.refl w _),nk w (Keep.refl w _) (by rw [e];rfl),next μ _ w (Ext.refl μ _ w) S (wHK A hE g1) rfl hfr⟩)⟩
     ·have e8:nb 8 x.kd=true:=kM e
      rw [wMn e8] at hop
      obtain ⟨h0,B,f1,f2,rfl⟩:=wGO.1 hop
      obtain ⟨B',vf,rfl,rfl,_,_,hh⟩:=wVb (C:=C) hal A.op _ _ _ _ f1
      have f2:(Tr.set .e (adv q (x.kd - 8)) B').get (adv q (x.kd - 8))=some B:=f2
      rw [Tr.get_set,if_pos rfl] at f2
      cases f2
      obtain ⟨ob,val,g1,g2,g3⟩:=hh μ σ hE o rfl
      have hx0:=hf x (hp.mem_iff.2 (.head _)) e
      obtain ⟨s1,s2,s3⟩:=S.pushAt (n':=h.nx) (c:=⟨w.heap.size,0,g0⟩) hx0.1 (nP _) hx0.2 (wBB w ob) (nP _) (by rw [wJQ];exact Nat.lt_succ_self _) (g2 _ _ _ (Mu.add_le hx0.1) (heap_alloc_new w _))
      refine .inl ⟨hw,.inr (.inl ⟨_,_,g1 w,nk _ (wBB w ob) (by unfold kk;rw [e8,Bool.or_true];rfl),next _ _ _ s2 s1 (wHK A (hE.mono s2.mono) (g3 _ _ _ s3)) rfl fun a ha e9=>⟨?_,(hfr a ha e9).2⟩⟩)⟩
      unfold Mu.add
      rw [if_neg fun e2=>?_]
      ·exact (hfr a ha e9).1
      ·have:=congrArg Pos.nat e2
       rw [wGD,wGD] at this
       exact hdp.1 a ha e (by omega)
  have ex1:∀ pre x post,os=pre ++ x :: post->flK x.kd=false->can d l pre x=true->wKr q tb ex exY (x :: (pre ++ post)) acc σA h=some (σA',h')/\(x :: (pre ++ post)).Pairwise Sep:=by
   intro pre x post e hfl hcan
   subst e
   cases pre with
   | nil=>exact ⟨hr,hsp⟩
   | cons b pre =>
    unfold can at hcan
    simp only [List.isEmpty_cons,ng,nB] at hcan
    have hp:=kj.1 hsp
    have hsx:∀ y ∈ b :: pre,Sep x y:=fun y hy _=>by
     have:=nH.1 hcan.2.1 y hy
     unfold wVd at this
     simp only [nB,ni,decide_eq_true_eq] at this
     obtain ⟨_,_,_,n1,_,n3⟩:=this
     exact ⟨n1,n3.elim (fun e=>.inr (.inl e)) fun e=>e.elim .inl fun e=>.inr (.inr e.symm)⟩
    exact ⟨exch (hc x (by simp)).1 (b :: pre) acc σA h (fun c hm=>(hc c (nl _ hm)).1) hcan.2.1 hp.1 (fun c hm=>⟨(hA c hm).1,fun y hy=>(hA c hm).2 y (nl _ hy)⟩) hr,
     nV.2 ⟨fun y hy=>(nM.1 hy).elim (hsx y) ((nV.1 hp.2.1).1 y),kj.2 ⟨hp.1,(nV.1 hp.2.1).2,fun a ha y hy=>hp.2.2 a ha y (.tail _ hy)⟩⟩⟩
  have halt:∀ suf pre,os=pre ++ suf->OKS N P l Q D ks (wVe d l (wPT d l n) pre suf) σ w:=by
   intro suf
   induction suf with
   | nil=>intro _ _;trivial
   | cons x post ih =>
    intro pre e
    unfold wVe
    cases hcn:!flK x.kd && can d l pre x with
    | false=>exact ih (pre ++ [x]) (by simp [e])
    | true =>
     simp only [nB,ni] at hcn
     have hx:=ex1 _ _ _ e hcn.1 hcn.2
     exact ⟨(stp x _ (e ▸ List.perm_middle) hx.2 hx.1).2 hcn.1,ih (pre ++ [x]) (by simp [e])⟩
  cases os with
  | nil=>cases hn
  | cons x r =>
   unfold wPT
   cases hfl:flK x.kd with
   | true=>exact (stp x r (List.Perm.refl _) hsp hr).1 hfl
   | false=>exact halt (x :: r) [] rfl
end
noncomputable section
open Go.RowKit Go.KL
def kdAt (i:Nat):List AO->Nat
 | []=>0
 | a :: os=>match nG a.ix i with
  | true=>kk a.kd
  | false=>kdAt i os
def ndp:List AO->Bool
 | []=>true
 | a :: os=>(kJ a.kd 8 || os.all fun b=>!Nat.beq a.kd b.kd) && ndp os
theorem wRw:∀ {os:List AO},ndp os=true->os.Pairwise wPU
 | [],_=>.nil
 | a :: os,h=>by
  simp only [ndp,nB,na,nj,nH] at h
  refine nV.2 ⟨fun b hb h8 e=>?_,wRw h.2⟩
  rcases h.1 with h1 | h1
  ·omega
  ·have:=h1 b hb
   rw [e] at this
   simp at this
def sep:List AO->Bool
 | []=>true
 | a :: os=>(!Nat.beq a.kd 5 || os.all fun b=>!rdT b.dst (wKy a.op) && decide (a.dst=none \/ b.dst=none \/ a.dst ≠ b.dst)) && sep os
theorem wRx:∀ {os:List AO},sep os=true->os.Pairwise Sep
 | [],_=>.nil
 | a :: os,h=>by
  simp only [sep,nB,na,nH,ni,decide_eq_true_eq] at h
  refine nV.2 ⟨fun b hb e=>?_,wRx h.2⟩
  rcases h.1 with h1 | h1
  ·rw [e] at h1;cases h1
  ·exact h1 b hb
def chkR (P:Program) (N:Nat) (os:List AO) (l:List Oper) (draw:Bool):Bool :=
 let ks:=(nO l.length).map fun i=>kdAt i os
 os.all (fun a=>wJz P N l a && (nG (kOf ks a.ix) (kk a.kd) && kJ a.kd (8 + wVF os))) && (ndp os && (sep os && (match draw with
  | true=>wOE l ks (wPT true l os.length os)
  | false=>inOrder 0 (wPT false l os.length os) l.length)))
def wNa (N:Nat):List Pos->List Nat->Bool
 | [],[]=>true
 | t :: ts,p :: ps=>(nG t.nat (p + 1) && kJ p N) && wNa N ts ps
 | _,_=>false
theorem wMo {N:Nat}:∀ {ts:List Pos} {ps:List Nat},wNa N ts ps=true->ts.map Pos.nat=ps.map (· + 1)/\∀ x ∈ ps,x < N
 | [],[],_=>by simp
 | t :: ts,p :: ps,h=>by
  simp only [wNa,nB,nj] at h
  obtain ⟨⟨h1,h2⟩,h3⟩:=h
  obtain ⟨h4,h5⟩:=wMo h3
  refine ⟨by simp [h4,nD h1],?_⟩
  intro x hx
  rcases nW.1 hx with rfl | hx
  ·exact h2
  ·exact h5 x hx
 | [],_ :: _,h=>by simp [wNa] at h
 | _ :: _,[],h=>by simp [wNa] at h
theorem wMp {μ:Mu}:∀ {ts:List Pos} {ns:List Nat} {σA σB:Tr AV} {σ:Env} {as:List AV} {vs:List Value},wSq σA ts as=some σB->ts.map Pos.nat=ns.map (· + 1)->RvL μ as vs->EnvR μ σA σ->EnvR μ σB (wON σ ns vs)/\ns.length=vs.length
 | [],ns,σA,σB,σ,as,vs,hs,hn,hv,hE=>by
  cases ns with
  | cons _ _=>simp at hn
  | nil =>
   cases as with
   | cons _ _=>simp [wSq] at hs
   | nil=>cases hv;simp only [wSq,kz] at hs;subst hs;exact ⟨hE,rfl⟩
 | t :: ts,ns,σA,σB,σ,as,vs,hs,hn,hv,hE=>by
  cases ns with
  | nil=>simp at hn
  | cons n ns =>
   cases as with
   | nil=>simp [wSq] at hs
   | cons a as =>
    obtain ⟨v,ws,h1,h2,rfl⟩:=hv
    simp only [nL,nK] at hn
    have hp:=hE.put (p:=t) h1
    have e:t.nat - 1=n:=by omega
    rw [e] at hp
    obtain ⟨g1,g2⟩:=wMp (ts:=ts) (ns:=ns) (σA:=σA.set t a) (σ:=upd σ n v) (by simpa [wSq] using hs) hn.2 h2 hp
    exact ⟨g1,by simp [g2]⟩
def wHV (P:Program) (N:Nat):AC->Code->Bool
 | .skip,.skip=>true
 | .skip,.label _=>true
 | .rg os,.region _ ops draw=>chkR P N os ops.toList draw
 | .seq a b,.seq c d=>wHV P N a c && wHV P N b d
 | .cond x a b,.cond y c d=>wCl x y && (wHV P N a c && wHV P N b d)
 | .block i a,.block j c=>nG i j && wHV P N a c
 | .loop a,.loop c=>wHV P N a c
 | .scope a,.scope c=>wHV P N a c
 | .rf g t asg body,.rangeFunc g' ps asg' body'=>wCl g g' && (wNa N t ps.toList && (wHV P N asg asg' && wHV P N body body'))
 | .exit i,.exit j=>nG i j
 | .ret,.ret=>true
 | .no,_=>true
 | _,_=>false
def CC (P:Program):Chk:=fun a c N=>wHV P N a c=true
section
variable {P:Program} {tb:Tr AF} {μ μ' μ'':Mu} {w w' w'':World} {h h' h'':AH} {σ:Env} {σA:Tr AV}
def Mk (μ:Mu) (w:World) (n0:Nat) (D:List Deferred):Prop:=∃ rbs:List Nat,D=rbs.map mark/\rbs.Nodup/\∀ rb ∈ rbs,Dfr w rb/\n0 <= rb/\∀ p c,μ p=some c->c.1 ≠ rb
theorem Mk.nil (μ:Mu) (w:World) (n0:Nat):Mk μ w n0 []:=⟨[],rfl,by simp,by simp⟩
theorem Mk.ext {n0 fl:Nat} {D:List Deferred} (M:Mk μ w n0 D) (E:Ext μ fl w μ' w'):Mk μ' w' n0 D:=by
 obtain ⟨rbs,h1,h2,h3⟩:=M
 refine ⟨rbs,h1,h2,fun rb hrb=>?_⟩
 obtain ⟨g1,g2,g3⟩:=h3 rb hrb
 refine ⟨g1.keep E.keep fun ⟨p,d,q1,q2,_⟩=>g3 p d q1 q2,g2,fun p c hp=>?_⟩
 rcases E.new p c hp with q | ⟨p',d,q1,q2,_⟩ | q
 ·exact g3 p c q
 ·rw [<- q2];exact g3 p' d q1
 ·have:=g1.lt;omega
def PostX (P:Program) (μ:Mu) (fl:Pos) (w:World) (n0:Nat) (rr:Option Nat) (D:List Deferred) (e:Ex) (σA':Tr AV) (h':AH):wDx:=fun D' e' σ' w' =>
 e'=exC e/\∃ μ',Ext μ fl.nat w μ' w'/\Sim (CC P) P μ' h' w'/\EnvR μ' σA' σ'/\Mk μ' w' n0 D'/\h'.fl=fl/\(rr.isSome=true->D'=D)
def wLA (P:Program) (ex:Run) (r:Bool):Prop:=∀ c σA h e σA' h',ex c σA h=some (e,σA',h')->∀ code N,wHV P N c code=true->∀ (rr:Option Nat) (μ:Mu) (σ:Env) (w:World) (D:List Deferred) (n0:Nat),
 rr.isSome=r->Sim (CC P) P μ h w->EnvR μ σA σ->Mk μ w n0 D->n0 <= w.heap.size->CK rr N P code (PostX P μ h.fl w n0 rr D e σA' h') D σ w
def wPV (P:Program) (ex:Run) (r:Bool) (m:Nat):Prop:=∀ c σA h e σA' h',ex (.loop c) σA h=some (e,σA',h')->∀ code N,wHV P N c code=true->∀ (rr:Option Nat) (μ:Mu) (σ:Env) (w:World) (D:List Deferred) (n0:Nat),
 rr.isSome=r->Sim (CC P) P μ h w->EnvR μ σA σ->Mk μ w n0 D->n0 <= w.heap.size->∀ a,Rep N D a σ->Code.roundsIn (WF rr) 0 P code (wJe N (PostX P μ h.fl w n0 rr D e σA' h')) m a w
theorem PostX.trans {fl:Pos} {n0:Nat} {rr:Option Nat} {D D1 D':List Deferred} {e:Ex} {e':Exit} {σA':Tr AV} {σ':Env} (E:Ext μ fl.nat w μ' w') (hD:rr.isSome=true->D1=D) (hP:PostX P μ' fl w' n0 rr D1 e σA' h' D' e' σ' w''):PostX P μ fl w n0 rr D e σA' h' D' e' σ' w'':=by
 obtain ⟨h1,μ2,h2,h3,h4,h5,h6,h7⟩:=hP
 exact ⟨h1,μ2,E.trans h2,h3,h4,h5,h6,fun hr=>(h7 hr).trans (hD hr)⟩
theorem wIY {F:Fence} {n:Nat} {c:Code} {Q Q':Exit->Act->World->Prop} (hQ:∀ e a w,Q e a w->Q' e a w):∀ (m:Nat) (a:Act) (w:World),Code.roundsIn F n P c Q m a w->Code.roundsIn F n P c Q' m a w
 | 0,_,_,h=>h.elim
 | m + 1,a,w,h=>by
  rw [roundsIn_succ] at h ⊢
  refine wpIn_mono h fun e a w q=>?_
  cases e with
  | normal=>exact wIY hQ m a w q
  | _=>exact hQ _ _ _ q
theorem Ext.drew (μ:Mu) (fl:Nat) (w:World):Ext μ fl w μ { w with drawn:=w.drawn + 1 }:=⟨Mu.Le.refl μ,fun _ _ h=>.inl h,(Keep.drew w).weak fun _ _ h=>h.elim⟩
theorem Sim.keepX {C:Chk} {X:Nat->Prop} (S:Sim C P μ h w) (K:Keep w w' X) (hX:∀ p c,μ p=some c->¬ X c.1):Sim C P μ h w' :=
 ⟨S.nx,fun p c hp=>Nat.lt_of_lt_of_le (S.lt p c hp) K.size,S.inj,fun p b hb=>let ⟨c,h1,h2⟩:=S.at_ p b hb;⟨c,h1,h2.keep K (hX p c h1)⟩⟩
def wFm (P:Program):List AR->List ResultVar->Bool
 | [],[]=>true
 | .t p :: l,.tmp t :: k=>nG p.nat (t + 1) && wFm P l k
 | .c p n :: l,.cell a t :: k=>nG p.nat (a + 1) && ((match n with | none=>wQq P t false | some n=>wQq P t true && szT P t n) && wFm P l k)
 | _,_=>false
def chkF (P:Program) (k:Nat) (af:AF):Bool:=match P.funcs[k]? with
 | none=>false
 | some fn=>match fn.body with
  | none=>false
  | some c => nG fn.ntmps af.n && (wFm P af.res fn.results.toList && (!(fn.name == "runtime.NumGoroutine") && wHV P fn.ntmps af.body c))
theorem wLy {C:Chk} (hE:EnvR μ σA σ) (S:Sim C P μ h w):∀ {l:List AR} {k:List ResultVar} {vs:List AV},wFm P l k=true->wUb σA h l=some vs->∃ VS,RvL μ vs VS/\wUa P w σ k VS
 | [],[],vs,_,hr=>by simp only [wUb] at hr;cases hr;exact ⟨[],rfl,trivial⟩
 | .t p :: l,.tmp t :: k,vs,hc,hr=>by
  simp only [wFm,nB] at hc
  simp only [wUb,res1] at hr
  split at hr
  ·rename_i vs' hvs
   cases hr
   obtain ⟨VS,g1,g2⟩:=wLy hE S hc.2 hvs
   have e:=nD hc.1
   have g:=hE p
   rw [e] at g
   exact ⟨_,wBv g g1,rfl,g2⟩
  ·cases hr
 | .c p n :: l,.cell a t :: k,vs,hc,hr=>by
  simp only [wFm,nB] at hc
  obtain ⟨c1,c2,c3⟩:=hc
  have e:=nD c1
  have g:=hE p
  rw [e] at g
  rw [wUb] at hr
  split at hr
  ·rename_i v hv
   split at hr
   ·rename_i vs' hvs
    cases hr
    obtain ⟨VS,g1,g2⟩:=wLy hE S c3 hvs
    simp only [res1] at hv
    split at hv
    ·rename_i b off hb
     split at hv
     ·rename_i cl hcl
      obtain ⟨c,ws,q1,q2,q3⟩:=wGN hcl S
      rw [hb] at g
      obtain ⟨c',k1,k2⟩:=g
      rw [q1] at k1;cases k1
      have k2:σ a=.pointer (some ⟨c.1,off,none⟩):=k2
      split at hv
      ·rw [wHp] at hv
       obtain ⟨cv,r1,r2⟩:=wGh q2 hv
       refine ⟨_,wBv r2 g1,⟨_,k2,?_⟩,g2⟩
       simp [loadVar,wGB c2,load,Sem.run,q3 w (Keep.refl w _) _ _ r1]
      ·rename_i n
       simp only [nB] at c2
       obtain ⟨r,hr3,rfl⟩:=wFH hv
       obtain ⟨r1,r2⟩:=wGi hr3 q2
       refine ⟨_,wBv ⟨_,r1,rfl⟩ g1,⟨_,k2,?_⟩,g2⟩
       have:=KL.run_loadCells (P:=P) (w:=w) (b:=c.1) (off:=off) (n:=n) ((ws.drop off).take n) (by simp;omega) fun j u hu=>q3 w (Keep.refl w _) _ _ (wFy rfl j u hu)
       simp [loadVar,wGB c2.1,wFQ c2.2,this]
     ·cases hv
    ·cases hv
   ·cases hr
  ·cases hr
 | [],_ :: _,_,hc,_=>by simp [wFm] at hc
 | .t _ :: _,[],_,hc,_=>by simp [wFm] at hc
 | .c _ _ :: _,[],_,hc,_=>by simp [wFm] at hc
 | .t _ :: _,.cell _ _ :: _,_,hc,_=>by simp [wFm] at hc
 | .c _ _ :: _,.tmp _ :: _,_,hc,_=>by simp [wFm] at hc
theorem wTf {C:Chk} {l:List AR} {rs:Array ResultVar} {v:AV} (hE:EnvR μ σA σ) (S:Sim C P μ h w) (hc:wFm P l rs.toList=true) (hr:wVE σA h l=some (v,h')):h'=h/\∃ cv,Rv μ v cv/\(wDp rs σ).run P w=.ok cv w:=by
 unfold wVE at hr
 split at hr
 ·rename_i vs hvs
  cases hr
  refine ⟨rfl,?_⟩
  obtain ⟨VS,g1,g2⟩:=wLy hE S hc hvs
  have hrs:rs=rs.toList.toArray:=by simp
  unfold tupA
  split
  ·rename_i v
   obtain ⟨cv,ws,q1,q2,q3⟩:=g1
   cases q2
   subst q3
   refine ⟨cv,q1,?_⟩
   have hl:∃ r,rs=#[r]:=by
    cases hq:rs.toList with
    | nil=>rw [hq] at g2;exact g2.elim
    | cons r k =>
     cases k with
     | nil=>exact ⟨r,nX (by simpa using hq)⟩
     | cons r' k=>rw [hq] at g2;cases r <;> cases r' <;> exact g2.2.elim
   obtain ⟨r,rfl⟩:=hl
   exact wLc g2
  ·rename_i hne
   refine ⟨_,⟨VS,g1,rfl⟩,?_⟩
   rw [hrs]
   refine wFc g2 ?_
   have hl:=wEu g1
   cases hb:VS.length == 1 with
   | false=>rfl
   | true =>
    have:vs.length=1:=by rw [<- hl];exact eq_of_beq hb
    obtain ⟨v,hv⟩:=List.length_eq_one_iff.1 this
    exact absurd hv (hne v)
 ·cases hr
def wNb (P:Program) (tb:Tr AF):Prop:=∀ p af,tb.get p=some af->chkF P (p.nat - 1) af=true
theorem wPW (T:wNb P tb) {ex:Run} (HE:wLA P ex false):wJX (CC P) P tb ex:=by
 intro f args h v h' hr
 unfold wNT at hr
 split at hr
 ·rename_i af haf
  have hcf:=T f af haf
  unfold chkF at hcf
  split at hcf
  ·cases hcf
  ·rename_i fn hfn
   split at hcf
   ·cases hcf
   ·rename_i c hbody
    simp only [nB,ni] at hcf
    obtain ⟨c1,c2,c3,c4⟩:=hcf
    refine ⟨fun a w=>?_,fun μ w vs S hv=>?_⟩
    ·have c3' : ¬ fn.name = "runtime.NumGoroutine" := by simpa using c3
     simp [callFunc,program,Sem.run,hfn,hbody,c3']
    ·split at hr
     ·rename_i hle
      have hle:=nT hle
      have e1:=nD c1
      have key:∀ e σA' h1,ex af.body (wOq args .H .e) h=some (e,σA',h1)->(e=.nrm \/ e=.ret)->wVE σA' h1 af.res=some (v,h')->Gv P (f.nat - 1) vs w fun cv w'=>∃ μ',Ext μ h.fl.nat w μ' w'/\Sim (CC P) P μ' h' w'/\Rv μ' v cv/\h'.fl=h.fl:=by
       intro e σA' h1 hx he hres
       refine Gv.ofM hfn hbody rfl rfl (by rw [wEu hv,<- wGW,e1];exact hle) ?_
       refine (HE _ _ _ _ _ _ hx c fn.ntmps c4 none μ (wRZ vs) w [] w.heap.size rfl S (wSx hv) (Mk.nil μ w _) (nP _)).mono ?_
       rintro D' e' σ' w' ⟨rfl,μ',q1,q2,q3,q4,q5,_⟩
       obtain ⟨rbs,m1,m2,m3⟩:=q4
       have fin:∃ rbs:List Nat,D'=rbs.map mark/\rbs.Nodup/\(∀ rb ∈ rbs,Dfr w' rb)/\∀ w2,Keep w' w2 (· ∈ rbs)->w2.heap.size=w'.heap.size->∃ cv,(wDp fn.results σ').run P w2=.ok cv w2/\∃ μ',Ext μ h.fl.nat w μ' w2/\Sim (CC P) P μ' h' w2/\Rv μ' v cv/\h'.fl=h.fl:=by
        refine ⟨rbs,m1,m2,fun rb hrb=>(m3 rb hrb).1,fun w2 K hs=>?_⟩
        have S2:=q2.keepX K fun p c hp hm=>(m3 _ hm).2.2 p c hp rfl
        obtain ⟨rfl,cv,r1,r2⟩:=wTf q3 S2 c2 hres
        refine ⟨cv,r2,μ',⟨q1.mono,q1.new,?_⟩,S2,r1,q5⟩
        exact q1.keep.step K fun i hi hm=>absurd (m3 i hm).2.1 (Nat.not_le.2 hi)
       rcases he with rfl | rfl
       ·exact fin
       ·exact fin
      split at hr
      ·exact key _ _ _ (by assumption) (.inl rfl) hr
      ·exact key _ _ _ (by assumption) (.inr rfl) hr
      ·cases hr
     ·cases hr
 ·cases hr
theorem wQw {ex:Run} (HE:wLA P ex true):wIW (CC P) P ex:=by
 intro b args h v h' hr
 unfold wOr at hr
 split at hr
 ·rename_i σA t asg body hB
  intro μ w xv c S hx hc
  split at hr <;> first | (cases hr;done) | skip
  rename_i σS hset
  split at hr <;> first | (cases hr;done) | skip
  rename_i σ1 h1 hasg
  split at hr <;> first | (cases hr;done) | skip
  rename_i σx tx ax bx hB1
  split at hr <;> first | (cases hr;done) | skip
  rename_i h2 hput2
  split at hr <;> first | (cases hr;done) | skip
  rename_i e σ3 h3 hbody
  split at hr <;> first | (cases hr;done) | skip
  rename_i σy ty ay by_ hB3
  split at hr <;> first | (cases hr;done) | skip
  rename_i h4 hput4
  cases hr
  obtain ⟨c',g1,g2⟩:=S.at_ b _ hB
  rw [hc] at g1;cases g1
  have L:wNV (CC P) μ w c σA t asg body .ready:=g2
  obtain ⟨hSE,hSl⟩:=wMp hset L.ht hx L.env
  refine Yd.of L.at_ L.tN hSl fun σ0 hσ0=>?_
  have hE0:EnvR μ σS σ0:=by
   intro p
   rw [hσ0];exact hSE p
  refine (HE _ _ _ _ _ _ hasg c.g.ac c.g.N L.asg (some c.1) μ σ0 w [] 0 rfl S hE0 (Mk.nil μ w _) (aF _)).mono ?_
  rintro D' e' σ' w1 ⟨rfl,μ1,q1,q2,q3,q4,q5,q6⟩
  have hc1:=q1.mono b c hc
  obtain ⟨c',r1,r2⟩:=q2.at_ b _ hB1
  rw [hc1] at r1;cases r1
  have L1:wNV (CC P) μ1 w1 c σx tx ax bx .ready:=r2
  refine ⟨rfl,q6 rfl,L1.at_,fun w2 hl2 K hs=>?_⟩
  obtain ⟨s1,s2,s3⟩:=q2.put hput2 hB1 trivial hc1 K (B':=.loop σA t asg body .busy) ⟨hl2,L.env.mono q1.mono,L.ht,L.tN,L.asg,L.body⟩
  rw [q5] at s2 s3
  refine (HE _ _ _ _ _ _ hbody c.g.bc c.g.N L.body (some c.1) μ1 σ' w2 [] 0 rfl s1 q3 (Mk.nil μ1 w2 _) (aF _)).mono ?_
  rintro D'' e'' σ'' w3 ⟨rfl,μ3,t1,t2,t3,t4,t5,t6⟩
  rw [s3] at t1 t5
  have hc3:=t1.mono b c hc1
  obtain ⟨c',u1,u2⟩:=t2.at_ b _ hB3
  rw [hc3] at u1;cases u1
  have L3:wNV (CC P) μ3 w3 c σy ty ay by_ .busy:=u2
  have fin:∀ w4,LoopAt w4 c.1 c.g.N c.g.σ c.g.t c.g.ac c.g.bc c.g.rb c.g.fn (lsC e.done).1 (lsC e.done).2->Keep w3 w4 (·=c.1)->∃ μ',Ext μ h.fl.nat w μ' w4/\Sim (CC P) P μ' h' w4/\AV.bool e.go=.bool e.go/\h'.fl=h.fl:=by
   intro w4 hl4 K4
   obtain ⟨v1,v2,v3⟩:=t2.put hput4 hB3 trivial hc3 K4 (B':=.loop σA t asg body e.done) ⟨hl4,(L.env.mono q1.mono).mono t1.mono,L.ht,L.tN,L.asg,L.body⟩
   rw [t5] at v2 v3
   exact ⟨μ3,(q1.trans s2).trans (t1.trans v2),v1,rfl,v3⟩
  cases e with
  | nrm=>exact ⟨L3.at_,fun w4 hl K4 _=>fin w4 hl K4⟩
  | ret=>exact ⟨L3.at_,fun w4 hl K4 _=>fin w4 hl K4⟩
  | exit i=>exact ⟨L3.at_,fun w4 hl K4 _=>fin w4 hl K4⟩
 ·cases hr
end
end
theorem wPX (b:AC) (exR:Run) (e:Ex) (σ:Tr AV) (h:AH):seqK b exR (e,σ,h)=(match e with | .nrm=>exR b σ h | e=>some (e,σ,h)):=by cases e <;> rfl
theorem optR {α:Type} {x:Option α} {k:α->R} {r:Ex × Tr AV × AH} (hr:kP (motive:=fun _=>R) none k x=some r):∃ y,x=some y/\k y=some r:=by
 cases x with
 | none=>cases hr
 | some y=>exact ⟨y,rfl,hr⟩
section
variable {P:Program} {tb:Tr AF}
theorem wPY (hm:P.follows .mixedOrders=true) {ex exY:Run} (HC:wJX (CC P) P tb ex) (HY:wIW (CC P) P exY) {os:List AO} {σA σA':Tr AV} {h h':AH} (hr:wKr h.nx tb ex exY os [] σA ⟨h.m,adv h.nx (wVF os),h.fl⟩=some (σA',h')) {id N:Nat} {ops:Array Oper} {draw:Bool} (hc:chkR P N os ops.toList draw=true)
  {rr:Option Nat} {μ:Mu} {σ:Env} {w:World} {D:List Deferred} {n0:Nat} (S:Sim (CC P) P μ h w) (hE:EnvR μ σA σ) (M:Mk μ w n0 D):CK rr N P (.region id ops draw) (PostX P μ h.fl w n0 rr D .nrm σA' h') D σ w:=by
 unfold chkR at hc
 simp only [nB,nH,nj] at hc
 obtain ⟨c1,c3,c4,c2⟩:=hc
 have hop:ops=ops.toList.toArray:=by simp
 have hnx:h.nx.nat <= (adv h.nx (wVF os)).nat:=by rw [wGD];omega
 have post:∀ {w0:World} {d:Bool},Ext μ h.fl.nat w μ w0->Sim (CC P) P μ h w0->OKS N P ops.toList (PostX P μ h.fl w n0 rr D .nrm σA' h') D ((nO ops.toList.length).map fun i=>kdAt i os) (wPT d ops.toList os.length os) σ w0:=by
  intro w0 d E0 S0
  refine okP HC HY os.length os [] σA _ σA' h' rfl hr (fun a ha=>⟨(c1 a ha).1,nD (c1 a ha).2.1⟩) (wRw c3) (wRx c4) (fun _ hm=>by cases hm) μ σ w0 (fun a ha e=>⟨S0.nx _ (by rw [wGD];omega),?_⟩) ⟨fun p hp=>S0.nx p (kC hnx hp),S0.lt,S0.inj,S0.at_⟩ hE fun μ' w' σ' q1 q2 q3 q4=>?_
  ·show _ < (adv h.nx (wVF os)).nat
   rw [wGD,wGD]
   have:=(c1 a ha).2.2
   omega
  ·have E:=E0.trans q1
   exact ⟨rfl,μ',E,q2,q3,M.ext E,q4,fun _=>rfl⟩
 rw [hop]
 cases draw with
 | true=>exact CK.anyOrd hm _ _ c2 (post (Ext.drew μ _ w) (S.keep (Keep.drew w)))
 | false=>exact CK.reg _ c2 (post (Ext.refl μ _ w) S)
theorem wQx {ex:Run} (HC:wJX (CC P) P tb ex) {g:AOd} {t:List Pos} {asg body:AC} {g':Operand} {ps:Array Tmp} {asg' body':Code} {N:Nat} (hc:wHV P N (.rf g t asg body) (.rangeFunc g' ps asg' body')=true)
  {σA σA':Tr AV} {h h':AH} {e:Ex} (hr:sRf true g t asg body tb ex σA h=some (e,σA',h')) {μ:Mu} {σ:Env} {w:World} {D:List Deferred} {n0:Nat} (S:Sim (CC P) P μ h w) (hE:EnvR μ σA σ) (M:Mk μ w n0 D) (hn:n0 <= w.heap.size) :
  CK none N P (.rangeFunc g' ps asg' body') (PostX P μ h.fl w n0 none D e σA' h') D σ w:=by
 simp only [wHV,nB] at hc
 obtain ⟨c1,c2,c3,c4⟩:=hc
 obtain ⟨p,rfl⟩:∃ p:List Nat,ps=p.toArray:=⟨ps.toList,by simp⟩
 ·obtain ⟨ht,c6⟩:=wMo (by simpa using c2)
  unfold sRf at hr
  split at hr
  ·rename_i f fi ca hg
   have hx:=wAW c1 hE
   rw [hg] at hx
   obtain ⟨fv,cv,g1,g2,g3⟩:=hx
   split at hr <;> first | (cases hr;done) | skip
   rename_i rv h2 hcall
   obtain ⟨hcf,hgv⟩:=HC _ _ _ _ _ hcall
   refine CK.rangeFunc (t:=p) g3 hcf fun fn l rb w1 e1 e2 hl hd K hs=>?_
   subst e1 e2
   have hle:=Mu.add_le (c:=(⟨w.heap.size + 1,0,⟨N,σ,p,asg',body',w.heap.size,fn⟩⟩:Cl)) (S.nx h.nx (nP _))
   obtain ⟨s1,s2,s3,s4⟩:=S.push (w':=w1) (c:=⟨w.heap.size + 1,0,⟨N,σ,p,asg',body',w.heap.size,fn⟩⟩) (B:=.loop σA t asg body .ready) K (Nat.le_succ _) (by show w.heap.size + 1 < _;omega) ⟨hl,hE.mono hle,ht,c6,c3,c4⟩
   generalize hμ1:μ.add h.nx (⟨w.heap.size + 1,0,⟨N,σ,p,asg',body',w.heap.size,fn⟩⟩:Cl)=μ1 at *
   have M1:Mk μ1 w1 n0 (mark w.heap.size :: D):=by
    have M':=M.ext s2
    obtain ⟨rbs,m1,m2,m3⟩:=M'
    have wHo:∀ rb ∈ rbs,rb < w.heap.size:=by
     obtain ⟨rbs0,k1,k2,k3⟩:=M
     intro rb hrb
     have hmm:rbs.map mark=rbs0.map mark:=by rw [<- m1,<- k1]
     have hinj:rbs=rbs0:=by
      have:∀ (a b:List Nat),a.map mark=b.map mark->a=b:=by
       intro a
       induction a with
       | nil=>intro b hb;cases b with
        | nil=>rfl
        | cons _ _=>simp at hb
       | cons x a ih=>intro b hb;cases b with
        | nil=>simp at hb
        | cons y b =>
         simp only [nL,nK] at hb
         have hxy:x=y:=by have:=hb.1;simp [mark] at this;exact this
         rw [hxy,ih b hb.2]
      exact this _ _ hmm
     exact (k3 rb (hinj ▸ hrb)).1.lt
    refine ⟨w.heap.size :: rbs,by rw [nL,<- m1],List.nodup_cons.2 ⟨fun hm=>absurd (wHo _ hm) (Nat.lt_irrefl _),m2⟩,fun rb hrb=>?_⟩
    rcases nW.1 hrb with rfl | hrb
    ·refine ⟨hd,hn,fun q c hq=>?_⟩
     rw [<- hμ1] at hq
     unfold Mu.add at hq
     split at hq
     ·cases hq;show w.heap.size + 1 ≠ _;omega
     ·have:=S.lt q c hq;omega
    ·exact m3 rb hrb
   have G:=hgv μ1 w1 (fv ++ (.func (.yield (w.heap.size + 1)) #[] #[] :: cv)) s1 (wFh (g1.mono s2.mono) (wBv ⟨_,s4,rfl⟩ (g2.mono s2.mono)))
   rw [nh]
   refine G.mono ?_
   rintro v3 w3 ⟨μ3,q1,q2,q3,q4⟩
   rw [s3] at q1 q4
   have E13:=s2.trans q1
   have hc3:=q1.mono _ _ s4
   have fin:∀ {B:AB} {h3:AH} (w4:World),h2.m.get h.nx=some B->wNy B->h2.put h.nx .dead=some h3->Keep w3 w4 (·=w.heap.size + 1)->w4.heap.size=w3.heap.size->∃ μ',Ext μ h.fl.nat w μ' w4/\Sim (CC P) P μ' h3 w4/\EnvR μ' σA σ/\Mk μ' w4 n0 (mark w.heap.size :: D)/\h3.fl=h.fl:=by
    intro B h3 w4 hB hlv hput K4 _
    obtain ⟨v1,v2,v3⟩:=q2.put hput hB hlv hc3 K4 (B':=.dead) trivial
    rw [q4] at v2 v3
    exact ⟨μ3,E13.trans v2,v1,hE.mono E13.mono,(M1.ext q1).ext v2,v3⟩
   split at hr
   ·rename_i sx tx ax bx hB
    split at hr <;> first | (cases hr;done) | skip
    rename_i h3 hput
    cases hr
    obtain ⟨c',u1,u2⟩:=q2.at_ _ _ hB
    rw [hc3] at u1;cases u1
    have L3:wNV (CC P) μ3 w3 ⟨w.heap.size + 1,0,⟨N,σ,p,asg',body',w.heap.size,fn⟩⟩ sx tx ax bx .ready:=u2
    refine .inl ⟨L3.at_,fun w4 K4 hs4=>?_⟩
    obtain ⟨μ',a1,a2,a3,a4,a5⟩:=fin w4 hB trivial hput K4 hs4
    exact ⟨rfl,μ',a1,a2,a3,a4,a5,fun hq=>by cases hq⟩
   ·rename_i sx tx ax bx ee hB
    split at hr <;> first | (cases hr;done) | skip
    rename_i h3 hput
    cases hr
    obtain ⟨c',u1,u2⟩:=q2.at_ _ _ hB
    rw [hc3] at u1;cases u1
    have L3:wNV (CC P) μ3 w3 ⟨w.heap.size + 1,0,⟨N,σ,p,asg',body',w.heap.size,fn⟩⟩ sx tx ax bx (.done e):=u2
    cases e with
    | nrm =>
     refine .inl ⟨L3.at_,fun w4 K4 hs4=>?_⟩
     obtain ⟨μ',a1,a2,a3,a4,a5⟩:=fin w4 hB trivial hput K4 hs4
     exact ⟨rfl,μ',a1,a2,a3,a4,a5,fun hq=>by cases hq⟩
    | ret =>
     refine .inr ⟨.ret,.inl rfl,L3.at_,fun w4 K4 hs4=>?_⟩
     obtain ⟨μ',a1,a2,a3,a4,a5⟩:=fin w4 hB trivial hput K4 hs4
     exact ⟨rfl,μ',a1,a2,a3,a4,a5,fun hq=>by cases hq⟩
    | exit i =>
     refine .inr ⟨.exit i,.inr ⟨i,rfl⟩,L3.at_,fun w4 K4 hs4=>?_⟩
     obtain ⟨μ',a1,a2,a3,a4,a5⟩:=fin w4 hB trivial hput K4 hs4
     exact ⟨rfl,μ',a1,a2,a3,a4,a5,fun hq=>by cases hq⟩
   ·cases hr
  ·cases hr
theorem CK.ofRounds {rr:Option Nat} {N:Nat} {c:Code} {Q:wDx} {D:List Deferred} {σ:Env} {w:World} (m:Nat) (hh:∀ a,Rep N D a σ->Code.roundsIn (WF rr) 0 P c (wJe N Q) m a w):CK rr N P (.loop c) Q D σ w :=
 fun a ha=>wpIn_loop_rounds m (hh a ha)
theorem wVf {exR:Run} {r:Bool} (HE:wLA P exR r) {a b:AC} {σA σA':Tr AV} {h h':AH} {e:Ex} (hr:sSeq a b exR σA h=some (e,σA',h')) {c d:Code} {N:Nat} (hc1:wHV P N a c=true) (hc2:wHV P N b d=true)
  {rr:Option Nat} {μ:Mu} {σ:Env} {w:World} {D:List Deferred} {n0:Nat} (hrr:rr.isSome=r) (S:Sim (CC P) P μ h w) (hE:EnvR μ σA σ) (M:Mk μ w n0 D) (hn:n0 <= w.heap.size):CK rr N P (.seq c d) (PostX P μ h.fl w n0 rr D e σA' h') D σ w:=by
 obtain ⟨⟨e1,σ1,h1⟩,ha,hb⟩:=optR hr
 rw [wPX] at hb
 refine CK.seq ((HE _ _ _ _ _ _ ha c N hc1 rr μ σ w D n0 hrr S hE M hn).mono ?_)
 intro D' e' σ' w' hp
 obtain ⟨rfl,μ1,q1,q2,q3,q4,q5,q6⟩:=hp
 cases e1 with
 | nrm =>
  refine (HE _ _ _ _ _ _ hb d N hc2 rr μ1 σ' w' D' n0 hrr q2 q3 q4 (kC hn q1.keep.size)).mono ?_
  intro D'' e'' σ'' w'' hp
  rw [q5] at hp
  exact PostX.trans q1 q6 hp
 | ret=>cases hb;exact ⟨rfl,μ1,q1,q2,q3,q4,q5,q6⟩
 | exit i=>cases hb;exact ⟨rfl,μ1,q1,q2,q3,q4,q5,q6⟩
theorem wTg {exR:Run} {r:Bool} {m:Nat} (HE:wLA P exR r) (HL:wPV P exR r m) {a:AC} {σA σA':Tr AV} {h h':AH} {e:Ex} (hr:wSv a exR σA h=some (e,σA',h')) {c:Code} {N:Nat} (hc:wHV P N a c=true)
  {rr:Option Nat} {μ:Mu} {σ:Env} {w:World} {D:List Deferred} {n0:Nat} (hrr:rr.isSome=r) (S:Sim (CC P) P μ h w) (hE:EnvR μ σA σ) (M:Mk μ w n0 D) (hn:n0 <= w.heap.size):∀ act,Rep N D act σ->Code.roundsIn (WF rr) 0 P c (wJe N (PostX P μ h.fl w n0 rr D e σA' h')) (m + 1) act w:=by
 obtain ⟨⟨e1,σ1,h1⟩,ha,hb⟩:=optR hr
 rw [wPX] at hb
 intro act hact
 rw [roundsIn_succ]
 refine wpIn_mono (HE _ _ _ _ _ _ ha c N hc rr μ σ w D n0 hrr S hE M hn act hact) ?_
 rintro e' act' w' ⟨σ',D',hrep,hp⟩
 obtain ⟨rfl,μ1,q1,q2,q3,q4,q5,q6⟩:=hp
 cases e1 with
 | nrm =>
  refine wIY ?_ m act' w' (HL _ _ _ _ _ _ hb c N hc rr μ1 σ' w' D' n0 hrr q2 q3 q4 (kC hn q1.keep.size) act' hrep)
  rintro e'' act'' w'' ⟨σ'',D'',hrep',hp⟩
  rw [q5] at hp
  exact ⟨σ'',D'',hrep',PostX.trans q1 q6 hp⟩
 | ret=>cases hb;exact ⟨σ',D',hrep,rfl,μ1,q1,q2,q3,q4,q5,q6⟩
 | exit i=>cases hb;exact ⟨σ',D',hrep,rfl,μ1,q1,q2,q3,q4,q5,q6⟩
theorem wTh (hm:P.follows .mixedOrders=true) (T:wNb P tb):∀ (n:Nat) (r:Bool),wLA P (exec tb n r) r/\wPV P (exec tb n r) r n:=by
 intro n
 induction n with
 | zero=>intro r;exact ⟨fun c σA h e σA' h' hr=>(by cases hr),fun c σA h e σA' h' hr=>(by cases hr)⟩
 | succ n ih =>
  intro r
  have HC:=wPW T (ih false).1
  have HY:=wQw (P:=P) (ih true).1
  obtain ⟨HE,HL⟩:=ih r
  have loop:wPV P (exec tb (n + 1) r) r (n + 1):=by
   intro c σA h e σA' h' hr code N hc rr μ σ w D n0 hrr S hE M hn
   have hr:wSv c (exec tb n r) σA h=some (e,σA',h'):=hr
   exact wTg HE HL hr hc hrr S hE M hn
  refine ⟨?_,loop⟩
  intro c σA h e σA' h' hr code N hc rr μ σ w D n0 hrr S hE M hn
  rw [wOt] at hr
  cases c with
  | skip =>
   have hr:sNrm σA h=some (e,σA',h'):=hr
   cases hr
   have fin:PostX P μ h.fl w n0 rr D .nrm σA h D .normal σ w:=⟨rfl,μ,Ext.refl μ _ w,S,hE,M,rfl,fun _=>rfl⟩
   cases code <;> simp only [wHV,nE] at hc
   ·exact CK.skip fin
   ·exact CK.label fin
  | rg os =>
   have hr:sRg os tb (exec tb n false) (exec tb n true) σA h=some (e,σA',h'):=hr
   unfold sRg at hr
   obtain ⟨y,h1,h2⟩:=optR hr
   cases h2
   cases code <;> simp only [wHV,nE] at hc
   exact wPY hm HC HY h1 hc S hE M
  | seq a b =>
   have hr:sSeq a b (exec tb n r) σA h=some (e,σA',h'):=hr
   cases code <;> simp only [wHV,nE,nB] at hc
   exact wVf HE hr hc.1 hc.2 hrr S hE M hn
  | cond x a b =>
   have hr:wSu x a b (exec tb n r) σA h=some (e,σA',h'):=hr
   cases code <;> simp only [wHV,nE,nB] at hc
   have hx:=wAW hc.1 hE
   unfold wSu at hr
   split at hr
   ·rename_i hb;rw [hb] at hx
    exact CK.condT hx (HE _ _ _ _ _ _ hr _ N hc.2.1 rr μ σ w D n0 hrr S hE M hn)
   ·rename_i hb;rw [hb] at hx
    exact CK.condF hx (HE _ _ _ _ _ _ hr _ N hc.2.2 rr μ σ w D n0 hrr S hE M hn)
   ·cases hr
  | block i a =>
   have hr:wRr i a (exec tb n r) σA h=some (e,σA',h'):=hr
   cases code <;> simp only [wHV,nE,nB] at hc
   rename_i j code
   have hij:=nD hc.1
   subst hij
   obtain ⟨⟨e1,σ1,h1⟩,ha,hb⟩:=optR hr
   refine CK.block ((HE _ _ _ _ _ _ ha code N hc.2 rr μ σ w D n0 hrr S hE M hn).mono ?_)
   rintro D' e' σ' w' ⟨rfl,μ1,q1,q2,q3,q4,q5,q6⟩
   cases e1 with
   | nrm=>cases hb;exact ⟨rfl,μ1,q1,q2,q3,q4,q5,q6⟩
   | ret=>cases hb;exact ⟨rfl,μ1,q1,q2,q3,q4,q5,q6⟩
   | exit k =>
    have hb:Bool.rec (motive:=fun _=>R) (some (.exit k,σ1,h1)) (some (.nrm,σ1,h1)) (nG k i)=some (e,σA',h'):=hb
    cases hk:nG k i with
    | true =>
     rw [hk] at hb;cases hb
     have:=nD hk
     subst this
     exact wJg ⟨rfl,μ1,q1,q2,q3,q4,q5,q6⟩
    | false =>
     rw [hk] at hb;cases hb
     exact wQU ⟨rfl,μ1,q1,q2,q3,q4,q5,q6⟩ hk
  | loop a =>
   have hr':exec tb (n + 1) r (.loop a) σA h=some (e,σA',h'):=hr
   cases code <;> simp only [wHV,nE] at hc
   exact CK.ofRounds (n + 1) (loop _ _ _ _ _ _ hr' _ N hc rr μ σ w D n0 hrr S hE M hn)
  | rf g t asg body =>
   have hr:sRf (!r) g t asg body tb (exec tb n false) σA h=some (e,σA',h'):=hr
   cases r with
   | true=>unfold sRf at hr;simp at hr
   | false =>
    have hnone:rr=none:=by cases rr <;> first | rfl | cases hrr
    subst hnone
    cases code <;> first | (simp only [wHV,nE] at hc;done) | skip
    exact wQx HC hc hr S hE M hn
  | exit i =>
   have hr:some (Ex.exit i,σA,h)=some (e,σA',h'):=hr
   cases hr
   cases code <;> simp only [wHV,nE] at hc
   have:=nD hc
   subst this
   exact CK.exit ⟨rfl,μ,Ext.refl μ _ w,S,hE,M,rfl,fun _=>rfl⟩
  | scope a =>
   have hr:exec tb n r a σA h=some (e,σA',h'):=hr
   cases code <;> simp only [wHV,nE] at hc
   refine CK.scope ((HE _ _ _ _ _ _ hr _ N hc rr μ σ w D n0 hrr S hE M hn).mono ?_)
   rintro D' e' σ' w' ⟨rfl,q⟩
   cases e with
   | nrm=>exact ⟨rfl,q⟩
   | ret=>exact ⟨rfl,q⟩
   | exit k=>exact ⟨rfl,q⟩
  | ret =>
   have hr:some (Ex.ret,σA,h)=some (e,σA',h'):=hr
   cases hr
   cases code <;> simp only [wHV,nE] at hc
   exact CK.ret ⟨rfl,μ,Ext.refl μ _ w,S,hE,M,rfl,fun _=>rfl⟩
  | no =>
   have hr:(none:R)=some (e,σA',h'):=hr
   cases hr
theorem Sim.empty (C:Chk) (P:Program) (w:World):Sim C P (fun _=>none) ⟨.e,.H,.H⟩ w :=
 ⟨fun _ _=>rfl,fun _ _ h=>(by cases h),fun _ _ _ _ _ _ h=>(by rw [Tr.get_e] at h;cases h),fun _ _ h=>(by rw [Tr.get_e] at h;cases h)⟩
theorem wNc (hm:P.follows .mixedOrders=true) (T:wNb P tb) (n:Nat) (f:Pos) (args:List AV) (vs:List Value) (v:AV) (h:AH) (hv:∀ μ,RvL μ args vs) (hr:wNT tb (exec tb n false) f args ⟨.e,.H,.H⟩=some (v,h)) (w:World) :
  Gv P (f.nat - 1) vs w fun cv w'=>∃ μ,Rv μ v cv/\Keep w w' Non:=by
 obtain ⟨_,hg⟩:=wPW T (wTh hm T n false).1 f args _ v h hr
 refine (hg _ w vs (Sim.empty _ _ w) (hv _)).mono ?_
 rintro cv w' ⟨μ',h1,h2,h3,_⟩
 exact ⟨μ',h3,h1.keep.weak fun i _ ⟨p,d,hp,_⟩=>by cases hp⟩
noncomputable def okB (tb:Tr AF) (n:Nat) (f:Pos) (b:Bool):Bool:=match wNT tb (exec tb n false) f [] ⟨.e,.H,.H⟩ with
 | some (.bool b',_)=>b' == b
 | _=>false
theorem wQy (hm:P.follows .mixedOrders=true) (T:wNb P tb) (n:Nat) (f:Pos) (k:Nat) (hk:f.nat=k + 1) (b:Bool) (hr:okB tb n f b=true) (w:World):Gv P k [] w fun cv w'=>cv=.bool b/\Keep w w' Non:=by
 unfold okB at hr
 split at hr
 ·rename_i b' h hq
  have hb:=eq_of_beq hr
  subst hb
  have:=wNc hm T n f [] [] _ h (fun _=>rfl) hq w
  rw [hk] at this
  refine this.mono ?_
  rintro cv w' ⟨μ,h1,h2⟩
  exact ⟨h1,h2⟩
 ·cases hr
def wPZ (f:Nat->AF->Prop):Tr AF->(Nat->Nat)->Prop
 | .e,_=>True
 | .n l v r,g=>(match v with | none=>True | some a=>f (g 1) a)/\wPZ f l (fun n=>g (2 * n))/\wPZ f r (fun n=>g (2 * n + 1))
theorem wIZ {f:Nat->AF->Prop}:∀ {t:Tr AF} {g:Nat->Nat},wPZ f t g->∀ p a,t.get p=some a->f (g p.nat) a
 | .e,g,_,p,a,hq=>by rw [Tr.get_e] at hq;cases hq
 | .n l v r,g,⟨h1,h2,h3⟩,.H,a,hq=>by
  rw [Tr.get_H] at hq;subst hq;exact h1
 | .n l v r,g,⟨h1,h2,h3⟩,.O p,a,hq=>wIZ h2 p a hq
 | .n l v r,g,⟨h1,h2,h3⟩,.I p,a,hq=>wIZ h3 p a hq
theorem wVg (h:wPZ (fun n a=>chkF P (n - 1) a=true) tb fun n=>n):wNb P tb:=fun p af hq=>wIZ h p af hq
end
end Go.KX
namespace Go.KL.Net
structure Ed where
 a:Nat
 b:Nat
 c:Int
def wIs (es:List Ed) (x:Nat->Int):Prop:=∀ e ∈ es,x e.b <= x e.a + e.c
theorem wTp {P:Int->Prop} {B:Int} (h:∃ m,P m) (hB:∀ m,P m->m <= B):∃ m,P m/\∀ k,P k->k <= m:=by
 have key:∀ (d:Nat) (m:Int),P m->(B - m).toNat <= d->∃ m,P m/\∀ k,P k->k <= m:=by
  intro d
  induction d with
  | zero =>
   intro m hm hd
   exact ⟨m,hm,fun k hk=>by have:=hB k hk;omega⟩
  | succ d ih =>
   intro m hm hd
   rcases aH (∃ k,P k/\m < k) with ⟨k,hk,hlt⟩ | h
   ·exact ih k hk (by have:=hB k hk;omega)
   ·exact ⟨m,hm,fun k hk=>by
     rcases kx m k with c | c
     ·exact absurd ⟨k,hk,c⟩ h
     ·exact c⟩
 obtain ⟨m,hm⟩:=h
 exact key _ m hm (nP _)
structure Con (n:Nat) (R:Int) (es:List Ed):Prop where
 ends:∀ e ∈ es,e.a < n/\e.b < n
 near:∀ x,wIs es x->∀ a b,a < n->b < n->x b - x a <= R
 all:∀ (S:Nat->Prop) (i:Nat),i < n->S i->(∀ e ∈ es,S e.a->S e.b)->∀ v,v < n->S v
structure Most (n:Nat) (es:List Ed) (top:Nat->Int) (δ:Nat->Int):Prop where
 ok:wIs es δ
 le:∀ v,v < n->δ v <= top v
 gr:∀ x,wIs es x->(∀ v,v < n->x v <= top v)->∀ v,v < n->x v <= δ v
theorem shift {es:List Ed} {x:Nat->Int} (h:wIs es x) (k:Int):wIs es fun v=>x v + k:=fun e he=>by have:=h e he;simp only;omega
theorem wPg {n:Nat} {R:Int} {es:List Ed} (C:Con n R es) {x:Nat->Int} (hx:wIs es x) {top:Nat->Int} {i:Nat} (hi:i < n) (h0:top i=0) (hp:∀ v,v < n->0 <= top v):∃ δ,Most n es top δ:=by
  have ex:∀ v,∃ m:Int,(v < n->(∃ y,wIs es y/\(∀ u,u < n->y u <= top u)/\y v=m)/\∀ y,wIs es y->(∀ u,u < n->y u <= top u)->y v <= m):=by
    intro v
    by_cases hv:v < n
    · obtain ⟨m,hm,hm2⟩:=wTp (P:=fun m=>∃ y,wIs es y/\(∀ u,u < n->y u <= top u)/\y v=m) (B:=R) ⟨_,fun u=>x u + (-(x i + R)),shift hx _,fun u hu=>by
          have:=C.near x hx i u hi hu
          have:=hp u hu
          simp only
          omega,rfl⟩ (by
          rintro m ⟨y,hy,hy2,rfl⟩
          have:=C.near y hy i v hi hv
          have:=hy2 i hi
          omega)
      exact ⟨m,fun _=>⟨hm,fun y hy hy2=>hm2 _ ⟨y,hy,hy2,rfl⟩⟩⟩
    · exact ⟨0,fun h=>absurd h hv⟩
  obtain ⟨δ,sp⟩:=Classical.axiomOfChoice ex
  refine ⟨δ,fun e he=>?_,fun v hv=>?_,fun y hy hy2 v hv=>(sp v hv).2 y hy hy2⟩
  · obtain ⟨h1,h2⟩:=C.ends e he
    obtain ⟨⟨y,hy,hy2,hy3⟩,_⟩:=sp e.b h2
    have:=(sp e.a h1).2 y hy hy2
    have:=hy e he
    omega
  · obtain ⟨⟨y,hy,hy2,hy3⟩,_⟩:=sp v hv
    have:=hy2 v hv
    omega
theorem Most.hi {n:Nat} {R:Int} {es:List Ed} (C:Con n R es) {top δ:Nat->Int} (M:Most n es top δ) {i:Nat} (hi:i < n) (h0:top i=0):∀ v,v < n->δ v <= R:=fun v hv=>by
 have:=C.near δ M.ok i v hi hv
 have:=M.le i hi
 omega
theorem Most.tight {n:Nat} {es:List Ed} {top δ:Nat->Int} (M:Most n es top δ) (hes:∀ e ∈ es,e.a < n/\e.b < n) (low:Nat->Int) (h0:∀ v,v < n->low v <= top v) (hT:∃ v,v < n/\δ v < low v) (hge:∀ v,v < n->δ v <= low v) :
  ∃ e ∈ es,low e.a=δ e.a/\δ e.b < low e.b/\δ e.b=δ e.a + e.c:=by
 rcases aH (∃ e ∈ es,low e.a=δ e.a/\δ e.b < low e.b/\δ e.b=δ e.a + e.c) with h | h
 ·exact h
 ·exfalso
  obtain ⟨v,hv,hlt⟩:=hT
  have hx:wIs es (fun u=>if δ u < low u then δ u + 1 else δ u):=by
   intro e he
   obtain ⟨h1,h2⟩:=hes e he
   have a:=M.ok e he
   have b:=hge e.a h1
   have c:=hge e.b h2
   simp only
   by_cases e1:δ e.b < low e.b
   ·by_cases e2:δ e.a < low e.a
    ·rw [if_pos e1,if_pos e2];omega
    ·rw [if_pos e1,if_neg e2]
     by_cases e3:δ e.b=δ e.a + e.c
     ·exact absurd ⟨e,he,by omega,e1,e3⟩ h
     ·omega
   ·rw [if_neg e1]
    split <;> omega
  have:=M.gr _ hx (fun u hu=>by
   have:=M.le u hu
   have:=h0 u hu
   show (if δ u < low u then δ u + 1 else δ u) <= top u
   split <;> omega) v hv
  have this:(if δ v < low v then δ v + 1 else δ v) <= δ v:=this
  rw [if_pos hlt] at this
  omega
theorem wMs (p q:Nat->Bool) (hpq:∀ v,p v=true->q v=true):∀ (l:List Nat),(∃ v ∈ l,p v=false/\q v=true)->l.countP p < l.countP q
 | [],⟨v,h,_⟩=>by cases h
 | a :: l,⟨v,h,hp,hq⟩=>by
  have mono:∀ l:List Nat,l.countP p <= l.countP q:=fun l=>List.countP_mono_left fun v _ h=>hpq v h
  rw [List.countP_cons,List.countP_cons]
  rcases nW.1 h with rfl | h
  ·have:=mono l
   simp only [hp,hq,if_true,nE,if_false]
   omega
  ·have:=wMs p q hpq l ⟨v,h,hp,hq⟩
   have:(if p a=true then 1 else 0) <= (if q a=true then 1 else 0):=by
    cases e:p a with
    | true=>rw [hpq a e];simp
    | false=>simp
   omega
def wUi (n:Nat) (δ low:Nat->Int):Nat:=(nO n).countP fun v=>decide (low v=δ v)
theorem wTq (n:Nat) (δ low:Nat->Int):wUi n δ low <= n:=by
 have:=List.countP_le_length (p:=fun v=>decide (low v=δ v)) (l:=nO n)
 rw [aC] at this
 exact this
theorem wTr {n:Nat} {δ low low':Nat->Int} (h1:∀ v,v < n->δ v <= low' v) (h2:∀ v,v < n->low' v <= low v) {v:Nat} (hv:v < n) (a:δ v < low v) (b:low' v=δ v):wUi n δ low < wUi n δ low':=by
 have:=wMs (fun v=>decide (low v=δ v)) (fun v=>decide (low' v=δ v) || !decide (v < n)) (fun u hu=>by
  have hu':=of_decide_eq_true hu
  by_cases hun:u < n
  ·have:=h1 u hun
   have:=h2 u hun
   simp only [na,decide_eq_true_eq]
   exact .inl (by omega)
  ·simp [hun]) (nO n) ⟨v,kQ.2 hv,decide_eq_false (by omega),by simp [b]⟩
 have e:(nO n).countP (fun v=>decide (low' v=δ v) || !decide (v < n))=(nO n).countP (fun v=>decide (low' v=δ v)):=by
  apply List.countP_congr
  intro u hu
  have:u < n:=kQ.1 hu
  simp [this]
 unfold wUi
 omega
structure IsD (n:Nat) (es:List Ed) (i:Nat) (f:Nat->Int):Prop where
 ok:wIs es f
 zero:f i=0
 gr:∀ x,wIs es x->∀ v,v < n->x v - x i <= f v
end Go.KL.Net
namespace Go.KL
variable {S S' B B' α:Type}
theorem wKQ {body:Nat->S->Option (S ⊕ B)} (I:Nat->S->Prop) (Z:B->Prop):∀ (m k:Nat) (s:S),I k s ->
  (∀ i s,k <= i->i < k + m->I i s->(∃ s',body i s=some (.inl s')/\I (i + 1) s') \/ ∃ b,body i s=some (.inr b)/\Z b) ->
  (∃ s',forN body m k s=some (.inl s')/\I (k + m) s') \/ ∃ b,forN body m k s=some (.inr b)/\Z b
 | 0,k,s,h,_=>.inl ⟨s,rfl,h⟩
 | m + 1,k,s,h,hb=>by
  simp only [forN]
  rcases hb k s (nP _) (by omega) h with ⟨s',h1,h2⟩ | ⟨b,h1,h2⟩
  ·rw [h1]
   have:=wKQ I Z m (k + 1) s' h2 fun i s h2 h3 h4=>hb i s (by omega) (by omega) h4
   rwa [show k + 1 + m=k + (m + 1) from by omega] at this
  ·rw [h1];exact .inr ⟨b,rfl,h2⟩
theorem wFa {body:Nat->S->Option S} (I:Nat->S->Prop):∀ (m k:Nat) (s:S),I k s ->
  (∀ i s,k <= i->i < k + m->I i s->∃ s',body i s=some s'/\I (i + 1) s')->∃ s',forN' body m k s=some s'/\I (k + m) s'
 | 0,k,s,h,_=>⟨s,rfl,h⟩
 | m + 1,k,s,h,hb=>by
  simp only [forN']
  obtain ⟨s',h1,h2⟩:=hb k s (nP _) (by omega) h
  rw [h1]
  have:=wFa I m (k + 1) s' h2 fun i s h2 h3 h4=>hb i s (by omega) (by omega) h4
  rwa [show k + 1 + m=k + (m + 1) from by omega] at this
theorem wEs {body:Nat->S->Option (S ⊕ B)} {n:Nat} {s:S} (hn:n <= 9223372036854775807):wGR 0 (n:Int) body s=forN body n 0 s:=by
 unfold wGR
 rw [if_pos (by omega),show ((n:Int) - 0).toNat=n from by omega]
theorem wEX {body:Nat->S->Option S} {n:Nat} {s:S} (hn:n <= 9223372036854775807):wBp 0 (n:Int) body s=forN' body n 0 s:=by
 unfold wBp
 rw [if_pos (by omega),show ((n:Int) - 0).toNat=n from by omega]
def first (p:α->Bool):List α->Nat->Int
 | [],_=>-1
 | a :: l,k=>if p a then (k:Int) else first p l (k + 1)
theorem wGI (p:α->Bool):∀ (l:List α) (k:Nat),decide (0 <= first p l k)=l.any p
 | [],k=>by simp [first]
 | a :: l,k=>by
  rw [first,km]
  by_cases h:p a
  ·simp [h]
  ·simp [h,wGI p l (k + 1)]
theorem wFC {R:Type} {l:List α} {f:α->Option Bool} {p:α->Bool} (hf:∀ a ∈ l,f a=some (p a)) (hn:l.length <= 9223372036854775807) (z:Int->R) :
  (jn (wGR 0 (↑l.length:Int) (fun k2 (_:Unit)=>(idx l (↑k2:Int)).bind fun x=>(f x).bind fun y=>if y=true then esc (some (z (↑k2:Int))) else some (.inl ())) ()) fun _=>some (z (-1)))=some (z (first p l 0)):=by
 rw [wEs hn]
 have key:∀ (m k:Nat),k + m=l.length->(jn (forN (fun k2 (_:Unit)=>(idx l (↑k2:Int)).bind fun x=>(f x).bind fun y=>if y=true then esc (some (z (↑k2:Int))) else some (.inl ())) m k ()) fun _=>some (z (-1)))=some (z (first p (l.drop k) k)):=by
  intro m
  induction m with
  | zero=>intro k hk;rw [ke (by omega)];rfl
  | succ m ih =>
   intro k hk
   have hlt:k < l.length:=by omega
   rw [kA hlt,first,forN,wLZ,nS hlt]
   simp only [nA,hf _ (List.getElem_mem hlt)]
   by_cases h:p l[k]=true
   ·simp [h]
   ·simp only [h,if_false,nE]
    exact ih (k + 1) (by omega)
 exact key l.length 0 (by omega)
theorem wHS {R:Type} {l:List α} {g:α->Option (Unit ⊕ R)} {p:α->Bool} {z:R} {K:Unit->Option R} (hg:∀ a ∈ l,g a=if p a=true then some (.inl ()) else some (.inr z)) (hn:l.length <= 9223372036854775807) :
  jn (wGR 0 (↑l.length:Int) (fun k (_:Unit)=>(idx l (↑k:Int)).bind g) ()) K=if l.all p=true then K () else some z:=by
 rw [wEs hn]
 have key:∀ (m k:Nat),k + m=l.length->jn (forN (fun k (_:Unit)=>(idx l (↑k:Int)).bind g) m k ()) K=if (l.drop k).all p=true then K () else some z:=by
  intro m
  induction m with
  | zero=>intro k hk;rw [ke (by omega)];rfl
  | succ m ih =>
   intro k hk
   have hlt:k < l.length:=by omega
   have e:l.drop k=l[k] :: l.drop (k + 1):=kA hlt
   rw [e,kG,forN,wLZ,nS hlt]
   simp only [nA,hg _ (List.getElem_mem hlt)]
   by_cases h:p l[k]=true
   ·rw [h]
    simp only [if_true,Bool.true_and]
    exact ih (k + 1) (by omega)
   ·rw [if_neg h]
    have:p l[k]=false:=by simpa using h
    simp only [this,Bool.false_and,wLb,nE,if_false]
 exact key l.length 0 (by omega)
theorem wER {bytes:Nat} {l m:List α} (h:(l.length + m.length) * bytes <= 140737488355328):app bytes l m=some (l ++ m):=if_pos h
variable {S B R α β:Type}
theorem wMt {body:Nat->S->Option (S ⊕ B)} (s:Nat->S):∀ (m k:Nat),(∀ i,k <= i->i < k + m->body i (s i)=some (.inl (s (i + 1))))->forN body m k (s k)=some (.inl (s (k + m)))
 | 0,_,_=>rfl
 | m + 1,k,h=>by
  rw [forN,h k (nP _) (by omega)]
  have:=wMt s m (k + 1) fun i h1 h2=>h i (by omega) (by omega)
  rw [show k + 1 + m=k + (m + 1) by omega] at this
  exact this
theorem wLN {body:Nat->S->Option S} (s:Nat->S):∀ (m k:Nat),(∀ i,k <= i->i < k + m->body i (s i)=some (s (i + 1)))->forN' body m k (s k)=some (s (k + m))
 | 0,_,_=>rfl
 | m + 1,k,h=>by
  rw [forN',h k (nP _) (by omega)]
  have:=wLN s m (k + 1) fun i h1 h2=>h i (by omega) (by omega)
  rw [show k + 1 + m=k + (m + 1) by omega] at this
  exact this
theorem wCk {body:Nat->S->Option S} {n:Nat} {s0:S} (s:Nat->S) (h0:s 0=s0) (hn:n <= 9223372036854775807) (h:∀ i,i < n->body i (s i)=some (s (i + 1))):wBp 0 (n:Int) body s0=some (s n):=by
 rw [wEX hn,<- h0]
 have:=wLN s n 0 fun i _ hi=>h i (by omega)
 rwa [nm] at this
theorem wKR {body:Nat->S->Option (S ⊕ B)} {n:Nat} {s0:S} (s:Nat->S) (h0:s 0=s0) (hn:n <= 9223372036854775807) (h:∀ i,i < n->body i (s i)=some (.inl (s (i + 1)))):wGR 0 (n:Int) body s0=some (.inl (s n)):=by
 rw [wEs hn,<- h0]
 have:=wMt s n 0 fun i _ hi=>h i (by omega)
 rwa [nm] at this
theorem wPh {body:Nat->Unit->Option (Unit ⊕ B)} {n:Nat} (hn:n <= 9223372036854775807) (h:∀ i,i < n->body i ()=some (.inl ())):wGR 0 (n:Int) body ()=some (.inl ()):=wKR (fun _=>()) rfl hn h
theorem wDP [Inhabited α] {l:List α} {k:Nat} (h:k < l.length):idx l (k:Int)=some (gd l k):=by
 rw [wLZ]
 exact wBb h
theorem wCW [Inhabited α] {l:List α} {k:Nat} (h:k < l.length):gd l k ∈ l:=List.mem_of_getElem? (wBb h)
theorem wFV [Inhabited α] {l:List α} {k:Nat} (h:k < l.length):l.take (k + 1)=l.take k ++ [gd l k]:=by
 rw [List.take_add_one,wBb h]
 rfl
theorem wKS [Inhabited α] {l:List α} {k:Nat} (h:k < l.length):l.drop k=gd l k :: l.drop (k + 1):=by
 have:=wBb h
 rw [nS h] at this
 rw [kA h,nq this]
theorem wEi [Inhabited α] {l m:List α} {k:Nat} (h:k < l.length):gd (l ++ m) k=gd l k:=by
 have h1:=wBb (xs:=l ++ m) (k:=k) (by rw [nI];omega)
 rw [kB h,wBb h] at h1
 exact (nq h1).symm
theorem wGP [Inhabited α] (l m:List α) (x:α):gd (l ++ x :: m) l.length=x:=by
 have h1:=wBb (xs:=l ++ x :: m) (k:=l.length) (by simp)
 rw [ny (nP _),Nat.sub_self] at h1
 exact (nq h1).symm
theorem wPi [Inhabited α] {l m:List α} (h:l.length=m.length) (hk:∀ k,k < l.length->gd l k=gd m k):l=m:=by
 apply aA
 intro k
 rcases kv k l.length with h1 | h1
 ·rw [wBb h1,wBb (by omega),hk k h1]
 ·rw [kK h1,kK (by omega)]
variable {S B α:Type}
theorem wPj {body:S->Option (S ⊕ B)} (F:Nat):∀ (m:Nat) (s:Nat->S),(∀ i,i < m->body (s i)=some (.inl (s (i + 1))))->iter body (m + F) (s 0)=iter body F (s m)
 | 0,s,_=>by rw [nm]
 | m + 1,s,h=>by
  rw [show m + 1 + F=(m + F) + 1 by omega,iter,h 0 (by omega)]
  exact wPj F m (fun i=>s (i + 1)) fun i hi=>h (i + 1) (by omega)
theorem wGr {body:S->Option (S ⊕ B)} {m:Nat} (s:Nat->S) (h:∀ i,i < m->body (s i)=some (.inl (s (i + 1)))) {b:B} (hb:body (s m)=some (.inr b)) {s0:S} (h0:s 0=s0) (hm:m < 1000000):iter body big s0=some b:=by
 subst h0
 have:=wPj (big - m - 1 + 1) m s h
 rw [show m + (big - m - 1 + 1)=big by unfold big;omega] at this
 rw [this,iter,hb]
theorem wHz {body:S->Option (S ⊕ B)} (I:Nat->S->Prop) (Z:B->Prop) (m:Nat) (step:∀ i s,i <= m->I i s->(i < m/\∃ s',body s=some (.inl s')/\I (i + 1) s') \/ ∃ b,body s=some (.inr b)/\Z b) {s0:S} (h0:I 0 s0) (hm:m < 1000000):∃ b,iter body big s0=some b/\Z b:=by
 have key:∀ (d i:Nat) (s:S),i + d=m->I i s->∀ F,d < F->∃ b,iter body F s=some b/\Z b:=by
  intro d
  induction d with
  | zero =>
   intro i s hi hI F hF
   obtain ⟨F,rfl⟩:∃ G,F=G + 1:=⟨F - 1,by omega⟩
   rcases step i s (by omega) hI with ⟨h,_⟩ | ⟨b,h1,h2⟩
   ·omega
   ·exact ⟨b,by rw [iter,h1],h2⟩
  | succ d ih =>
   intro i s hi hI F hF
   obtain ⟨F,rfl⟩:∃ G,F=G + 1:=⟨F - 1,by omega⟩
   rcases step i s (by omega) hI with ⟨_,s',h1,h2⟩ | ⟨b,h1,h2⟩
   ·obtain ⟨b,h3,h4⟩:=ih (i + 1) s' (by omega) h2 F (by omega)
    exact ⟨b,by rw [iter,h1];exact h3,h4⟩
   ·exact ⟨b,by rw [iter,h1],h2⟩
 exact key m 0 s0 (by omega) h0 big (by unfold big;omega)
theorem wMG {body:S->Option (S ⊕ B)} (I:Nat->S->Prop) {b:B} (m:Nat) {s0:S} (h0:I 0 s0) (hm:m < 1000000) (step:∀ i s,i <= m->I i s->(i < m/\∃ s',body s=some (.inl s')/\I (i + 1) s') \/ body s=some (.inr b)):iter body big s0=some b:=by
 obtain ⟨c,h1,h2⟩:=wHz (body:=body) I (fun c=>c=b) m (fun i s hi hI=>by
  rcases step i s hi hI with h | h
  ·exact .inl h
  ·exact .inr ⟨b,h,rfl⟩) h0 hm
 rw [h1,h2]
theorem wPk [Inhabited α] {l:List α} {i k:Nat} {x:α} (hi:i < l.length) (hk:k < l.length):gd (l.set i x) k=if k=i then x else gd l k:=by
 have h1:=wBb (xs:=l.set i x) (k:=k) (by rw [kZ];exact hk)
 rw [aB] at h1
 by_cases e:i=k
 ·subst e
  rw [if_pos rfl,if_pos hi] at h1
  rw [if_pos rfl]
  exact (nq h1).symm
 ·rw [if_neg e,wBb hk] at h1
  rw [if_neg (fun h=>e h.symm)]
  exact (nq h1).symm
theorem wGs [Inhabited α] {l:List α} {k:Nat} (h:k < l.length):gd l k=l[k]:=by
 have:=wBb h
 rw [nS h] at this
 exact (nq this).symm
end Go.KL
namespace Go.Proofs.YtadbejldcmkokaaGreat
open Go.KL Go.KL.Net
structure EdOK (n:Nat) (e:wAm):Prop where
 f0:0 <= e.from_
 f1:e.from_ < n
 t0:0 <= e.to_
 t1:e.to_ < n
 c0:-400000 <= e.count
 c1:e.count <= 400000
def ed (p:Bool) (e:wAm):Ed:=if p then ⟨e.to_.toNat,e.from_.toNat,e.count⟩ else ⟨e.from_.toNat,e.to_.toNat,e.count⟩
abbrev SS:=List Int × List Int × Int
def spB (es:List wAm) (p2:Bool):Nat->SS->Option SS:=fun k1375 (l1372,l1373,x1374) =>
 ((idx es (↑k1375:Int)).bind fun x1412 =>
 if p2=true then
 (chk x1412.to_ l1372.length).bind fun _ =>
 if (gd l1372 x1412.to_.toNat) < 1125899906842624 then
 (chk x1412.from_ l1372.length).bind fun _ =>
 if (w64 ((gd l1372 x1412.to_.toNat) + x1412.count)) < (gd l1372 x1412.from_.toNat) then
 ((chk x1412.from_ l1373.length).bind fun _ =>
 some ()).bind fun _ =>
 some ((nv l1372 x1412.from_.toNat (w64 ((gd l1372 x1412.to_.toNat) + x1412.count))),(nv l1373 x1412.from_.toNat (↑k1375:Int)),x1412.from_)
 else
 some (l1372,l1373,x1374)
 else
 some (l1372,l1373,x1374)
 else
 (chk x1412.from_ l1372.length).bind fun _ =>
 if (gd l1372 x1412.from_.toNat) < 1125899906842624 then
 (chk x1412.to_ l1372.length).bind fun _ =>
 if (w64 ((gd l1372 x1412.from_.toNat) + x1412.count)) < (gd l1372 x1412.to_.toNat) then
 ((chk x1412.to_ l1373.length).bind fun _ =>
 some ()).bind fun _ =>
 some ((nv l1372 x1412.to_.toNat (w64 ((gd l1372 x1412.from_.toNat) + x1412.count))),(nv l1373 x1412.to_.toNat (↑k1375:Int)),x1412.to_)
 else
 some (l1372,l1373,x1374)
 else
 some (l1372,l1373,x1374)).bind fun (l1406,l1407,x1408) =>
 some (l1406,l1407,x1408)
theorem wVt {n:Nat} {es:List wAm} (hes:∀ e ∈ es,EdOK n e) {p:Bool} {k:Nat} (hk:k < es.length) {far by_:List Int} {last:Int} (hf:far.length=n) (hb:by_.length=n) {M:Int} (hM:M <= 1000000000000000) (h0:0 <= M) (hr:∀ v,v < n->gd far v=1125899906842624 \/ (-M <= gd far v/\gd far v <= M)) :
  (ed p (gd es k)).a < n/\(ed p (gd es k)).b < n /\
  spB es p k (far,by_,last)=some (if gd far (ed p (gd es k)).a < 1125899906842624/\gd far (ed p (gd es k)).a + (ed p (gd es k)).c < gd far (ed p (gd es k)).b then
   (far.set (ed p (gd es k)).b (gd far (ed p (gd es k)).a + (ed p (gd es k)).c),by_.set (ed p (gd es k)).b (k:Int),((ed p (gd es k)).b:Int)) else (far,by_,last)):=by
 obtain ⟨f0,f1,t0,t1,c0,c1⟩:=hes _ (wCW hk)
 have hw:∀ a:Int,0 <= a->a < n->gd far a.toNat < 1125899906842624->w64 (gd far a.toNat + (gd es k).count)=gd far a.toNat + (gd es k).count:=fun a h1 h2 h3=>by
  rcases hr a.toNat (by omega) with c | c
  ·omega
  ·exact wAX (by omega) (by omega)
 unfold spB ed
 rw [wDP hk]
 cases p with
 | true =>
  refine ⟨by simp only [if_true];omega,by simp only [if_true];omega,?_⟩
  simp only [nA,if_true]
  rw [wCK t0 (by omega),nA]
  by_cases a:gd far (gd es k).to_.toNat < 1125899906842624
  ·rw [if_pos a,wCK f0 (by omega),nA,hw _ t0 t1 a]
   by_cases b:gd far (gd es k).to_.toNat + (gd es k).count < gd far (gd es k).from_.toNat
   ·rw [if_pos b,wCK f0 (by omega),if_pos ⟨a,b⟩]
    simp only [nA]
    rw [show (((gd es k).from_.toNat:Nat):Int)=(gd es k).from_ by omega]
   ·rw [if_neg b,if_neg (fun h=>b h.2)];rfl
  ·rw [if_neg a,if_neg (fun h=>a h.1)];rfl
 | false =>
  refine ⟨by simp only [nE,if_false];omega,by simp only [nE,if_false];omega,?_⟩
  simp only [nA,nE,if_false]
  rw [wCK f0 (by omega),nA]
  by_cases a:gd far (gd es k).from_.toNat < 1125899906842624
  ·rw [if_pos a,wCK t0 (by omega),nA,hw _ f0 f1 a]
   by_cases b:gd far (gd es k).from_.toNat + (gd es k).count < gd far (gd es k).to_.toNat
   ·rw [if_pos b,wCK t0 (by omega),if_pos ⟨a,b⟩]
    simp only [nA]
    rw [show (((gd es k).to_.toNat:Nat):Int)=(gd es k).to_ by omega]
   ·rw [if_neg b,if_neg (fun h=>b h.2)];rfl
  ·rw [if_neg a,if_neg (fun h=>a h.1)];rfl
structure Ps (n:Nat) (es:List wAm) (p:Bool) (far:List Int) (M:Int) (i:Nat) (s:SS):Prop where
 fl:s.1.length=n
 bl:s.2.1.length=n
 rg:∀ v,v < n->gd s.1 v=1125899906842624 \/ (-(M + 400000 * (i:Int)) <= gd s.1 v/\gd s.1 v <= M + 400000 * (i:Int))
 le:∀ v,v < n->gd s.1 v <= gd far v
 ch:(s.2.2=-1/\s.1=far/\∀ e ∈ es.take i,gd far (ed p e).a < 1125899906842624->gd far (ed p e).b <= gd far (ed p e).a + (ed p e).c) \/ (0 <= s.2.2/\s.2.2 < n/\∃ v,v < n/\gd s.1 v < gd far v)
 fe:∀ x,wIs (es.map (ed p)) x->(∀ v,v < n->x v <= gd far v)->∀ v,v < n->x v <= gd s.1 v
 st:∀ δ,wIs (es.map (ed p)) δ->(∀ v,v < n->δ v <= gd far v)->(∀ v,v < n->δ v < 1125899906842624)->∀ e ∈ es.take i,gd far (ed p e).a=δ (ed p e).a->δ (ed p e).b=δ (ed p e).a + (ed p e).c->gd s.1 (ed p e).b=δ (ed p e).b
theorem wTs {n:Nat} {es:List wAm} (hes:∀ e ∈ es,EdOK n e) (hl:es.length <= 1000) (p:Bool) {far by_:List Int} (hf:far.length=n) (hb:by_.length=n) {M:Int} (hM:M <= 900000000000000) (h0:0 <= M) (hr:∀ v,v < n->gd far v=1125899906842624 \/ (-M <= gd far v/\gd far v <= M)) :
  ∃ s,wBp 0 (↑es.length:Int) (spB es p) (far,by_,-1)=some s/\Ps n es p far M es.length s:=by
 rw [wEX (by omega)]
 obtain ⟨s,e,P⟩:=wFa (body:=spB es p) (fun i s=>Ps n es p far M i s) es.length 0 (far,by_,-1)
  ⟨hf,hb,fun v hv=>by have:=hr v hv;simp only;omega,fun _ _=>Int.le_refl _,.inl ⟨rfl,rfl,fun e he=>by simp at he⟩,fun _ _ h=>h,fun _ _ _ _ e he=>by simp at he⟩ (by
  rintro i ⟨f,b,last⟩ _ hi P
  have hi':i < es.length:=by omega
  obtain ⟨fl,bl,rg,le,ch,fe,st⟩:=P
  simp only at fl bl rg le ch fe st
  obtain ⟨ha,hbb,e⟩:=wVt hes (p:=p) hi' (last:=last) fl bl (M:=M + 400000 * (i:Int)) (by omega) (by omega) rg
  have hm:=wCW hi'
  have hok:=hes _ hm
  have hc:-400000 <= (ed p (gd es i)).c/\(ed p (gd es i)).c <= 400000:=by
   have:=hok.c0;have:=hok.c1
   unfold ed
   split <;> exact ⟨by assumption,by assumption⟩
  have hfe:∀ x,wIs (es.map (ed p)) x->x (ed p (gd es i)).b <= x (ed p (gd es i)).a + (ed p (gd es i)).c:=fun x hx=>hx _ (nc.2 ⟨_,hm,rfl⟩)
  have hends:∀ e ∈ es.take i,(ed p e).a < n/\(ed p e).b < n:=fun e he=>by
   obtain ⟨a1,a2,a3,a4,_,_⟩:=hes e (List.mem_of_mem_take he)
   unfold ed
   split <;> (simp only;omega)
  generalize hE:ed p (gd es i)=E at ha hbb e hc hfe
  rw [e]
  by_cases c:gd f E.a < 1125899906842624/\gd f E.a + E.c < gd f E.b
  ·rw [if_pos c]
   obtain ⟨c1,c2⟩:=c
   have rga:-(M + 400000 * (i:Int)) <= gd f E.a/\gd f E.a <= M + 400000 * (i:Int):=by
    rcases rg E.a ha with q | q
    ·omega
    ·exact q
   have hg:∀ v,v < n->gd (f.set E.b (gd f E.a + E.c)) v=if v=E.b then gd f E.a + E.c else gd f v:=fun v hv=>wPk (by omega) (by omega)
   refine ⟨_,rfl,by simp [fl],by simp [bl],fun v hv=>?_,fun v hv=>?_,.inr ⟨by simp only;omega,by simp only;omega,E.b,hbb,?_⟩,fun x hx hxt v hv=>?_,fun δ hδ h1 h2 e' he' g1 g2=>?_⟩
   ·simp only
    rw [hg v hv]
    split
    ·right;omega
    ·rcases rg v hv with q | q
     ·exact .inl q
     ·right;omega
   ·simp only
    rw [hg v hv]
    split
    ·rename_i h;have:=le E.b hbb;rw [h];omega
    ·exact le v hv
   ·simp only
    rw [hg _ hbb,if_pos rfl]
    have:=le E.b hbb
    omega
   ·simp only
    rw [hg v hv]
    have:=fe x hx hxt
    split
    ·rename_i h
     have a1:=this E.a ha
     have a2:=hfe x hx
     rw [h];omega
    ·exact this v hv
   ·have lo:=fe δ hδ h1
    simp only
    rw [wFV hi'] at he'
    rcases nM.1 he' with he' | he'
    ·have old:=st δ hδ h1 h2 e' he' g1 g2
     rw [hg _ (hends e' he').2]
     split
     ·rename_i h
      have a1:=lo E.a ha
      have a2:=hfe δ hδ
      rw [h] at old ⊢
      omega
     ·exact old
    ·have:=nZ.1 he'
     subst this
     rw [hE] at g1 g2 ⊢
     rw [hg _ hbb,if_pos rfl]
     have a1:=lo E.a ha
     have a2:=le E.a ha
     omega
  ·rw [if_neg c]
   refine ⟨_,rfl,fl,bl,fun v hv=>?_,le,?_,fe,fun δ hδ h1 h2 e' he' g1 g2=>?_⟩
   ·rcases rg v hv with q | q
    ·exact .inl q
    ·right;simp only;omega
   ·simp only
    rcases ch with ⟨q1,q2,q3⟩ | q
    ·refine .inl ⟨q1,q2,fun e' he' g=>?_⟩
     rw [wFV hi'] at he'
     rcases nM.1 he' with he' | he'
     ·exact q3 e' he' g
     ·have:=nZ.1 he'
      subst this
      rw [hE] at g ⊢
      rw [q2] at c
      rcases kx (gd far E.a + E.c) (gd far E.b) with d | d
      ·exact absurd ⟨g,d⟩ c
      ·exact d
    ·exact .inr q
   ·have lo:=fe δ hδ h1
    rw [wFV hi'] at he'
    rcases nM.1 he' with he' | he'
    ·exact st δ hδ h1 h2 e' he' g1 g2
    ·have:=nZ.1 he'
     subst this
     rw [hE] at g1 g2 ⊢
     simp only
     have a1:=lo E.a ha
     have a2:=le E.a ha
     have a3:=lo E.b hbb
     have a4:=h2 E.a ha
     have fa:gd f E.a=δ E.a:=by omega
     rw [fa] at c
     rcases kx (δ E.a + E.c) (gd f E.b) with d | d
     ·exact absurd ⟨a4,d⟩ c
     ·omega)
 rw [nm] at P
 exact ⟨s,e,P⟩
theorem wGQ {α:Type} [Inhabited α] (l:List α) (k:Nat):gd l k=(l[k]?).getD default:=by unfold gd;rw [kS]
theorem wPl {α:Type} {m ys:List α} {a:Nat} (h:a <= m.length):(cpy m a ys).length=m.length:=by
 unfold cpy
 simp only [nI,nN,List.length_drop]
 omega
theorem wSD {α:Type} [Inhabited α] {m ys:List α} {a j:Nat} (h:a <= m.length) (hj:j < m.length):gd (cpy m a ys) j=if j < a then gd m j else if j < a + ys.length then gd ys (j - a) else gd m j:=by
 rw [wGQ,wGQ,wGQ]
 unfold cpy
 rw [nh]
 by_cases c:j < a
 ·rw [if_pos c,kB (by rw [nN];omega),kD,if_pos c]
 ·rw [if_neg c,ny (by rw [nN];omega),nN,Nat.min_eq_left h]
  by_cases d:j < a + ys.length
  ·rw [if_pos d,kB (by rw [nN];omega),kD,if_pos (by omega)]
  ·rw [if_neg d,ny (by rw [nN];omega),nN,List.getElem?_drop,Nat.min_eq_right (by omega)]
   congr 2
   omega
theorem wLO (x:Int) {n:Nat} (h1:1 <= n) (h2:n <= 1000):wBW [x] (n:Int)=some (nJ n x):=by
 unfold wBW wEG
 have e1:wQW (([x]:List Int).length:Int)=1:=rfl
 have e2:wQW (n:Int)=n:=by unfold wQW;omega
 rw [if_neg (by omega),e1,e2,if_pos (by omega),nA]
 simp only
 rw [show (1:Int) * (n:Int) / 18446744073709551616=0 by omega,show (1:Int) * (n:Int) % 18446744073709551616=n by omega,if_neg (by omega),nA,decide_eq_false (by omega),if_neg (by simp),wAX (by omega) (by omega),mkz,if_pos (by omega),nA,wNx,if_pos (by simp),nA]
 have hlen:(nJ (n:Int).toNat (0:Int)).length=n:=by simp
 generalize nJ (n:Int).toNat (0:Int)=z at hlen
 have e3:((min ([x]:List Int).length z.length:Nat):Int)=1:=by simp only [nU];omega
 refine wMG (I:=fun i (s:List Int × Int)=>s.1.length=n/\(i:Int) + 1 <= s.2/\s.2 <= n/\∀ j,j < s.2.toNat->gd s.1 j=x) n ⟨by rw [wPl (by simp)];exact hlen,by simp only;omega,by simp only;omega,fun j hj=>?_⟩ (by omega) ?_
 ·simp only at hj ⊢
  rw [wSD (by simp) (by omega),if_neg (by simp),if_pos (by simp only [nU];omega)]
  have:j=0:=by omega
  subst this
  rfl
 ·rintro i ⟨l,k⟩ hi ⟨q1,q2,q3,q4⟩
  simp only at q1 q2 q3 q4 ⊢
  by_cases c:k < (l.length:Int)
  ·left
   refine ⟨by omega,?_⟩
   have hd:(List.take ((l.length:Int).toNat - k.toNat) (List.drop k.toNat l)).length=l.length - k.toNat:=by
    rw [nN,List.length_drop];omega
   have ht:(List.take (k.toNat - (0:Int).toNat) (List.drop (0:Int).toNat l))=l.take k.toNat:=by simp
   rw [if_pos c,cut,if_pos (by omega),nA,cut,if_pos (by omega),nA,wNx,if_pos (by omega),nA,ht,hd,nN]
   rw [wAX (by omega) (by omega)]
   refine ⟨_,rfl,by simp only;rw [wPl (by omega)];exact q1,by simp only;omega,by simp only;omega,fun j hj=>?_⟩
   simp only at hj ⊢
   rw [wSD (by omega) (by omega),nN]
   by_cases d:j < k.toNat
   ·rw [if_pos d];exact q4 j d
   ·rw [if_neg d,if_pos (by omega)]
    have:=q4 (j - k.toNat) (by omega)
    rw [wGQ] at this ⊢
    rw [kD,if_pos (by omega)]
    exact this
  ·right
   rw [if_neg c,wQX]
   have:l=nJ n x:=wPi (by simp [q1]) fun j hj=>by
    rw [q4 j (by omega),wGs (by simpa [q1] using hj)];simp
   rw [this]
def wIp (i:Int) (v:Nat):Int:=if i < 0 \/ (v:Int)=i then 0 else 1125899906842624
theorem wSE (i:Int) (v:Nat):0 <= wIp i v/\wIp i v <= 1125899906842624:=by unfold wIp;split <;> omega
theorem wTt {n:Nat} (i:Int) {l:List Int} (hl:l.length=n) (hn:n <= 1000) (h0:∀ v,v < n->gd l v=1125899906842624):∃ y,(wBp 0 (↑l.length:Int) (fun k1254 l1253 =>
  if i < 0 then
   (chk (↑k1254:Int) l1253.length).bind fun _ =>
   some (nv l1253 k1254 0)
  else
   if (↑k1254:Int)=i then
    (chk (↑k1254:Int) l1253.length).bind fun _ =>
    some (nv l1253 k1254 0)
   else
    some l1253) l)=some y/\y.length=n/\∀ v,v < n->gd y v=wIp i v:=by
 rw [wEX (by omega)]
 obtain ⟨y,e,y1,y2⟩:=wFa (body:=fun (k1254:Nat) (l1253:List Int) =>
  if i < 0 then
   (chk (↑k1254:Int) l1253.length).bind fun _ =>
   some (nv l1253 k1254 0)
  else
   if (↑k1254:Int)=i then
    (chk (↑k1254:Int) l1253.length).bind fun _ =>
    some (nv l1253 k1254 0)
   else
    some l1253) (fun k s=>s.length=n/\∀ v,v < n->gd s v=if v < k then wIp i v else 1125899906842624) l.length 0 l ⟨hl,fun v hv=>by rw [if_neg (by omega)];exact h0 v hv⟩ (by
  rintro k s _ hk ⟨s1,s2⟩
  have hk':k < n:=by omega
  have hset:∀ v,v < n->gd (s.set k 0) v=if v=k then 0 else gd s v:=fun v hv=>wPk (by omega) (by omega)
  by_cases c:i < 0 \/ (k:Int)=i
  ·have hb:(if i < 0 then (chk (↑k:Int) s.length).bind fun _=>some (nv s k 0) else if (↑k:Int)=i then (chk (↑k:Int) s.length).bind fun _=>some (nv s k 0) else some s)=some (s.set k 0):=by
    rw [wCK (by omega) (by omega)]
    rcases c with c | c
    ·rw [if_pos c];rfl
    ·rw [if_pos c]
     split <;> rfl
   refine ⟨_,hb,by simp [s1],fun v hv=>?_⟩
   rw [hset v hv]
   by_cases e:v=k
   ·subst e
    rw [if_pos rfl,if_pos (by omega),wIp,if_pos c]
   ·rw [if_neg e,s2 v hv]
    by_cases d:v < k
    ·rw [if_pos d,if_pos (by omega)]
    ·rw [if_neg d,if_neg (by omega)]
  ·refine ⟨s,by rw [if_neg (fun h=>c (.inl h)),if_neg (fun h=>c (.inr h))],s1,fun v hv=>?_⟩
   rw [s2 v hv]
   by_cases d:v < k
   ·rw [if_pos d,if_pos (by omega)]
   ·by_cases e:v=k
    ·subst e
     rw [if_neg (by omega),if_pos (by omega),wIp,if_neg c]
    ·rw [if_neg d,if_neg (by omega)])
 rw [nm] at y2
 exact ⟨y,e,y1,fun v hv=>by rw [y2 v hv,if_pos (by omega)]⟩
structure SpT (n:Nat) (es:List Ed) (i:Int) (far:List Int):Prop where
 fl:far.length=n
 rl:∀ e ∈ es,gd far e.a < 1125899906842624->gd far e.b <= gd far e.a + e.c
 rg:∀ v,v < n->gd far v=1125899906842624 \/ (-400000000000 <= gd far v/\gd far v <= 400000000000)
 le:∀ v,v < n->gd far v <= wIp i v
 fe:∀ x,wIs es x->(∀ v,v < n->x v <= wIp i v)->∀ v,v < n->x v <= gd far v
structure SpI (n:Nat) (es:List Ed) (i:Int) (t:Nat) (s:SS):Prop where
 fl:s.1.length=n
 bl:s.2.1.length=n
 rg:∀ v,v < n->gd s.1 v=1125899906842624 \/ (-(400000000 * (t:Int)) <= gd s.1 v/\gd s.1 v <= 400000000 * (t:Int))
 le:∀ v,v < n->gd s.1 v <= wIp i v
 fe:∀ x,wIs es x->(∀ v,v < n->x v <= wIp i v)->∀ v,v < n->x v <= gd s.1 v
 st:∀ δ,Most n es (wIp i) δ->(∀ v,v < n->δ v < 1125899906842624)->t <= wUi n δ fun v=>gd s.1 v
 la:t=0 \/ (0 <= s.2.2/\s.2.2 < n)
theorem wLP {d:wAx} {n:Nat} (hn:d.number.length=n) (h1:1 <= n) (h2:n <= 500) (hes:∀ e ∈ d.edges,EdOK n e) (hl:d.edges.length <= 1000) (i:Int) (p:Bool) :
  ∃ f last ok,wBN d i p=some (f,last,ok)/\f.by_.length=n/\f.far.length=n/\(ok=true->SpT n (d.edges.map (ed p)) i f.far)/\(ok=false->0 <= last/\last < n/\∀ δ,Most n (d.edges.map (ed p)) (wIp i) δ->¬ ∀ v,v < n->δ v < 1125899906842624):=by
 unfold wBN
 rw [hn,wLO _ h1 (by omega),nA,wLO _ h1 (by omega),nA,nA]
 simp only
 obtain ⟨y,e1,y1,y2⟩:=wTt (n:=n) i (l:=nJ n 1125899906842624) (by simp) (by omega) (fun v hv=>by rw [wGs (by simpa using hv)];simp)
 rw [e1,nA,wAX (by omega) (by omega)]
 have hn1:((n:Int) + 1)=((n + 1:Nat):Int):=by omega
 rw [hn1,wEs (by omega)]
 have hmap:∀ e ∈ d.edges.map (ed p),e.a < n/\e.b < n:=fun e he=>by
  obtain ⟨q,hq,rfl⟩:=nc.1 he
  obtain ⟨a1,a2,a3,a4,_,_⟩:=hes q hq
  unfold ed
  split <;> (simp only;omega)
 rcases wKQ (B:=wDr × Int × Bool) (body:=fun (k1336:Nat) ((l1333,l1334,x1335):SS) =>
  (wBp 0 (↑d.edges.length:Int) (spB d.edges p) (l1333,l1334,-1)).bind fun (y1380,y1381,y1382) =>
  if y1382 < 0 then
   esc (some ((⟨y1380,y1381⟩:wDr),0,true))
  else
   some (.inl (y1380,y1381,y1382))) (fun t s=>SpI n (d.edges.map (ed p)) i t s) (fun b=>b.2.2=true/\b.1.by_.length=n/\SpT n (d.edges.map (ed p)) i b.1.far) (n + 1) 0 (y,nJ n (-1),-1)
  ⟨y1,by simp,fun v hv=>by simp only;rw [y2 v hv];unfold wIp;split <;> omega,fun v hv=>by simp only;rw [y2 v hv];exact Int.le_refl _,fun x _ hx v hv=>by simp only;rw [y2 v hv];exact hx v hv,fun _ _ _=>aF _,.inl rfl⟩ (by
   rintro t ⟨far,by_,last⟩ _ ht ⟨fl,bl,rg,le,fe,st,la⟩
   simp only at fl bl rg le fe st
   obtain ⟨⟨far',by',last'⟩,e,P⟩:=wTs hes hl p fl bl (M:=400000000 * (t:Int)) (by omega) (by omega) rg
   obtain ⟨gl,ql,qg,qle,ch,qfe,qst⟩:=P
   simp only at gl ql qg qle ch qfe qst
   simp only
   rw [e,nA]
   simp only
   rcases ch with ⟨c1,c2,c3⟩ | ⟨c1,c2,v,hv,c3⟩
   ·right
    subst c1
    rw [if_pos (by omega)]
    refine ⟨_,rfl,rfl,ql,gl,fun e' he' hlt=>?_,fun v hv=>?_,fun v hv=>Int.le_trans (qle v hv) (le v hv),fun x hx hxt v hv=>qfe x hx (fe x hx hxt) v hv⟩
    ·obtain ⟨q,hq,rfl⟩:=nc.1 he'
     simp only at hlt ⊢
     rw [c2] at hlt ⊢
     rw [List.take_length] at c3
     exact c3 q hq hlt
    ·simp only
     rw [c2]
     rcases rg v hv with q | q
     ·exact .inl q
     ·right;omega
   ·left
    rw [if_neg (by omega)]
    refine ⟨_,rfl,gl,ql,fun v hv=>?_,fun v hv=>Int.le_trans (qle v hv) (le v hv),fun x hx hxt v hv=>qfe x hx (fe x hx hxt) v hv,fun δ M hδ=>?_,.inr ⟨c1,c2⟩⟩
    ·simp only
     rcases qg v hv with q | q
     ·exact .inl q
     ·right;omega
    ·have old:=st δ M hδ
     have lo:=fe δ M.ok M.le
     have lo':=qfe δ M.ok lo
     simp only
     obtain ⟨e',he',g1,g2,g3⟩:=M.tight hmap (fun u=>gd far u) (fun u hu=>le u hu) ⟨v,hv,by have:=lo' v hv;omega⟩ lo
     obtain ⟨q,hq,rfl⟩:=nc.1 he'
     rw [List.take_length] at qst
     have h5:=qst δ M.ok lo hδ q hq g1 g3
     have:=wTr (n:=n) (δ:=δ) (low:=fun u=>gd far u) (low':=fun u=>gd far' u) lo' (fun u hu=>qle u hu) (hmap _ he').2 g2 h5
     omega) with ⟨⟨far,by_,last⟩,e,I⟩ | ⟨⟨f,last,ok⟩,e,h3,h4,h5⟩
 ·refine ⟨⟨far,by_⟩,last,false,?_,I.bl,I.fl,(fun h=>by cases h),fun _=>?_⟩
  ·show jn (forN _ (n + 1) 0 (y,nJ n (-1),-1)) _=_
   erw [e]
   rfl
  ·have hla:=I.la
   simp only at hla
   refine ⟨by omega,by omega,fun δ M hδ=>?_⟩
   have h6:0 + (n + 1) <= wUi n δ fun v=>gd far v:=I.st δ M hδ
   have:=wTq n δ fun v=>gd far v
   omega
 ·simp only at h3 h4 h5
  subst h3
  refine ⟨f,last,true,?_,h4,h5.fl,fun _=>h5,fun h=>by cases h⟩
  show jn (forN _ (n + 1) 0 (y,nJ n (-1),-1)) _=_
  erw [e]
  rfl
theorem SpT.fin {n:Nat} {R:Int} {es:List Ed} (C:Con n R es) (hc:∀ e ∈ es,e.c <= 400000) {i:Int} {far:List Int} (S:SpT n es i far) {k:Nat} (hk:k < n) (h0:wIp i k=0):∀ v,v < n->gd far v < 1125899906842624 :=
 C.all (fun v=>v < n->gd far v < 1125899906842624) k hk (fun _=>by have:=S.le k hk;omega) (fun e he h _=>by
  obtain ⟨h1,h2⟩:=C.ends e he
  have a:=h h1
  have b:=S.rl e he a
  have c:=hc e he
  rcases S.rg e.a h1 with q | q <;> omega) |> fun h v hv=>h v hv hv
theorem SpT.feas {n:Nat} {R:Int} {es:List Ed} (C:Con n R es) (hc:∀ e ∈ es,e.c <= 400000) {i:Int} {far:List Int} (S:SpT n es i far) {k:Nat} (hk:k < n) (h0:wIp i k=0):wIs es fun v=>gd far v :=
 fun e he=>S.rl e he (S.fin C hc hk h0 e.a (C.ends e he).1)
theorem SpT.isD {n:Nat} {R:Int} (hR:R <= 1000000000000) {es:List Ed} (C:Con n R es) (hc:∀ e ∈ es,e.c <= 400000) {i:Nat} (hi:i < n) {far:List Int} (S:SpT n es i far):IsD n es i fun v=>gd far v:=by
 have t0:wIp i i=0:=by unfold wIp;rw [if_pos (.inr rfl)]
 have F:=S.feas C hc hi t0
 have gr:∀ x,wIs es x->∀ v,v < n->x v - x i <= gd far v:=fun x hx v hv=>by
  have:=S.fe (fun u=>x u + (-(x i))) (shift hx _) (fun u hu=>by
   show x u + (-(x i)) <= _
   have:=C.near x hx i u hi hu
   unfold wIp
   split
   ·rename_i h
    rcases h with h | h
    ·omega
    ·have:u=i:=by omega
     subst this;omega
   ·omega) v hv
  have this:x v + (-(x i)) <= gd far v:=this
  omega
 have h1:=gr _ F i hi
 have h2:=S.le i hi
 exact ⟨F,by show gd far i=0;omega,gr⟩
end Go.Proofs.YtadbejldcmkokaaGreat
namespace Go.KL
def wTu (q:Nat->Bool):Nat->Nat->Bool
 | 0,_=>true
 | m + 1,k=>q k && wTu q m (k + 1)
theorem wFT (q:Nat->Bool):∀ m k,wTu q m k=true ↔ ∀ i,k <= i->i < k + m->q i=true
 | 0,k=>⟨fun _ i h1 h2=>by omega,fun _=>rfl⟩
 | m + 1,k=>by
  rw [wTu,nB,wFT q m (k + 1)]
  constructor
  ·rintro ⟨h1,h2⟩ i h3 h4
   by_cases e:i=k
   ·exact e ▸ h1
   ·exact h2 i (by omega) (by omega)
  ·exact fun h=>⟨h k (by omega) (by omega),fun i h1 h2=>h i (by omega) (by omega)⟩
end Go.KL
namespace Go.Proofs.YtadbejldcmkokaaGreat
open Go.KL Go.KL.Net
structure RC (r:wAF):Prop where
 n:1 <= r.Starts.length/\r.Starts.length <= 8
 m:r.Splits.length <= 7
 c:r.Clocks.length <= 4
 q:r.Readings.length <= 40
 st:∀ s ∈ r.Starts,0 <= s/\s <= 360000
 sp:∀ s ∈ r.Splits,s.Lo <= s.Hi/\0 <= s.Lo/\s.Hi <= 360000
 ck:∀ s ∈ r.Clocks,(s.Offset.Lo <= s.Offset.Hi/\-36000 <= s.Offset.Lo/\s.Offset.Hi <= 36000)/\0 <= s.Error/\s.Error <= 600
 rt:∀ x ∈ r.Readings,0 <= x.Time/\x.Time <= 360000
 ru:∀ x ∈ r.Readings,0 <= x.Skier/\x.Skier < r.Starts.length/\0 <= x.Mat/\x.Mat <= r.Splits.length/\0 <= x.Clock/\x.Clock < r.Clocks.length
def zp:wAJ:=⟨-1,0⟩
def wKT (r:wAF) (p:wAJ):Prop:=p=zp \/ (0 <= p.skier/\p.skier < r.Starts.length/\0 <= p.mat/\p.mat <= r.Splits.length) \/ (p.skier=-1/\1 <= p.mat/\p.mat <= r.Clocks.length)
def wFK (r:wAF) (x:wAN):Prop :=
 (x.Kind=0/\0 <= x.Skier/\x.Skier < r.Starts.length/\x.Index=0) \/ (x.Kind=1/\0 <= x.Skier/\x.Skier < r.Starts.length/\0 <= x.Index/\x.Index < r.Splits.length) \/
 (x.Kind=2/\x.Skier=0/\0 <= x.Index/\x.Index < r.Clocks.length) \/ (x.Kind=3/\x.Skier=0/\0 <= x.Index/\x.Index < r.Readings.length)
abbrev Pt:=wAJ
def wDn (r:wAF) (x:wAN):Pt × Pt × Int × Int :=
 if x.Kind=0 then (zp,⟨x.Skier,0⟩,gd r.Starts x.Skier.toNat,-gd r.Starts x.Skier.toNat)
 else if x.Kind=1 then (⟨x.Skier,x.Index⟩,⟨x.Skier,x.Index + 1⟩,(gd r.Splits x.Index.toNat).Hi,-(gd r.Splits x.Index.toNat).Lo)
 else if x.Kind=2 then (zp,⟨-1,1 + x.Index⟩,-(gd r.Clocks x.Index.toNat).Offset.Lo,(gd r.Clocks x.Index.toNat).Offset.Hi)
 else (⟨-1,1 + (gd r.Readings x.Index.toNat).Clock⟩,⟨(gd r.Readings x.Index.toNat).Skier,(gd r.Readings x.Index.toNat).Mat⟩,(gd r.Readings x.Index.toNat).Time + (gd r.Clocks (gd r.Readings x.Index.toNat).Clock.toNat).Error,(gd r.Clocks (gd r.Readings x.Index.toNat).Clock.toNat).Error - (gd r.Readings x.Index.toNat).Time)
def wEP (r:wAF) (x:wAN):Pt × Pt × Int:=if x.Up=true then ((wDn r x).1,(wDn r x).2.1,(wDn r x).2.2.1) else ((wDn r x).2.1,(wDn r x).1,(wDn r x).2.2.2)
theorem wGt {α:Type} [Inhabited α] {l:List α} {i:Int} (h0:0 <= i) (h1:i < l.length):idx l i=some (gd l i.toNat):=by
 obtain ⟨k,rfl⟩:=Int.eq_ofNat_of_zero_le h0
 rw [wDP (by omega)]
 rfl
theorem wDQ {α:Type} [Inhabited α] {l:List α} {i:Int} (h0:0 <= i) (h1:i < l.length):gd l i.toNat ∈ l:=wCW (by omega)
theorem wRF {r:wAF} (C:RC r) {x:wAN} (h:wFK r x):wCD r x=some (wEP r x):=by
 unfold wCD wCm wEb wEc wEd wEe wEf wEg wED wEE wDk wDf
 have hm:=C.m;have hc:=C.c;have hq:=C.q;have hn:=C.n
 rcases h with ⟨k,a,b,c⟩ | ⟨k,a,b,c,d⟩ | ⟨k,a,c,d⟩ | ⟨k,a,c,d⟩
 ·have g:=C.st _ (wDQ a b)
  have e4:wDn r x=(zp,⟨x.Skier,0⟩,gd r.Starts x.Skier.toNat,-gd r.Starts x.Skier.toNat):=if_pos k
  have w:w64 (-gd r.Starts x.Skier.toNat)=-gd r.Starts x.Skier.toNat:=wAX (by omega) (by omega)
  rw [if_pos k,wGt a b]
  simp only [nA]
  rw [w]
  unfold wEP
  rw [e4]
  split <;> rfl
 ·have g:=C.sp _ (wDQ c d)
  have e4:wDn r x=(⟨x.Skier,x.Index⟩,⟨x.Skier,x.Index + 1⟩,(gd r.Splits x.Index.toNat).Hi,-(gd r.Splits x.Index.toNat).Lo):=(if_neg (by omega)).trans (if_pos k)
  have w:w64 (-(gd r.Splits x.Index.toNat).Lo)=-(gd r.Splits x.Index.toNat).Lo:=wAX (by omega) (by omega)
  have w2:w64 (x.Index + 1)=x.Index + 1:=wAX (by omega) (by omega)
  rw [if_neg (by omega),if_pos k,wGt c d]
  simp only [nA]
  rw [w,w2]
  unfold wEP
  rw [e4]
  split <;> rfl
 ·have g:=C.ck _ (wDQ c d)
  have e4:wDn r x=(zp,⟨-1,1 + x.Index⟩,-(gd r.Clocks x.Index.toNat).Offset.Lo,(gd r.Clocks x.Index.toNat).Offset.Hi):=(if_neg (by omega)).trans ((if_neg (by omega)).trans (if_pos k))
  have w:w64 (-(gd r.Clocks x.Index.toNat).Offset.Lo)=-(gd r.Clocks x.Index.toNat).Offset.Lo:=wAX (by omega) (by omega)
  have w2:w64 (1 + x.Index)=1 + x.Index:=wAX (by omega) (by omega)
  rw [if_neg (by omega),if_neg (by omega),if_pos k,wGt c d]
  simp only [nA]
  rw [w,w2]
  unfold wEP
  rw [e4]
  split <;> rfl
 ·have g:=C.rt _ (wDQ c d)
  have u:=C.ru _ (wDQ c d)
  have gc:=C.ck _ (wDQ u.2.2.2.2.1 u.2.2.2.2.2)
  have e4:wDn r x=(⟨-1,1 + (gd r.Readings x.Index.toNat).Clock⟩,⟨(gd r.Readings x.Index.toNat).Skier,(gd r.Readings x.Index.toNat).Mat⟩,(gd r.Readings x.Index.toNat).Time + (gd r.Clocks (gd r.Readings x.Index.toNat).Clock.toNat).Error,(gd r.Clocks (gd r.Readings x.Index.toNat).Clock.toNat).Error - (gd r.Readings x.Index.toNat).Time):=(if_neg (by omega)).trans ((if_neg (by omega)).trans (if_neg (by omega)))
  rw [if_neg (by omega),if_neg (by omega),if_neg (by omega),if_pos k,wGt c d]
  simp only [nA]
  rw [wGt u.2.2.2.2.1 u.2.2.2.2.2]
  simp only [nA]
  generalize gd r.Readings x.Index.toNat=X at *
  generalize gd r.Clocks X.Clock.toNat=Y at *
  have w:w64 (X.Time + Y.Error)=X.Time + Y.Error:=wAX (by omega) (by omega)
  have w2:w64 (1 + X.Clock)=1 + X.Clock:=wAX (by omega) (by omega)
  have w3:w64 (Y.Error - X.Time)=Y.Error - X.Time:=wAX (by omega) (by omega)
  rw [w,w2,w3]
  unfold wEP
  rw [e4]
  split <;> rfl
theorem wHk {r:wAF} (C:RC r) {x:wAN} (h:wFK r x):wKT r (wEP r x).1/\wKT r (wEP r x).2.1/\-400000 <= (wEP r x).2.2/\(wEP r x).2.2 <= 400000:=by
 have key:wKT r (wDn r x).1/\wKT r (wDn r x).2.1/\(-400000 <= (wDn r x).2.2.1/\(wDn r x).2.2.1 <= 400000)/\(-400000 <= (wDn r x).2.2.2/\(wDn r x).2.2.2 <= 400000):=by
  have hn:=C.n
  unfold wDn
  rcases h with ⟨k,a,b,c⟩ | ⟨k,a,b,c,d⟩ | ⟨k,a,c,d⟩ | ⟨k,a,c,d⟩
  ·have g:=C.st _ (wDQ a b)
   rw [if_pos k]
   exact ⟨.inl rfl,.inr (.inl ⟨a,b,by simp only;omega,by simp only;omega⟩),by simp only;omega,by simp only;omega⟩
  ·have g:=C.sp _ (wDQ c d)
   rw [if_neg (by omega),if_pos k]
   exact ⟨.inr (.inl ⟨a,b,by simp only;omega,by simp only;omega⟩),.inr (.inl ⟨a,b,by simp only;omega,by simp only;omega⟩),by simp only;omega,by simp only;omega⟩
  ·have g:=C.ck _ (wDQ c d)
   rw [if_neg (by omega),if_neg (by omega),if_pos k]
   exact ⟨.inl rfl,.inr (.inr ⟨rfl,by simp only;omega,by simp only;omega⟩),by simp only;omega,by simp only;omega⟩
  ·have g:=C.rt _ (wDQ c d)
   have u:=C.ru _ (wDQ c d)
   have gc:=C.ck _ (wDQ u.2.2.2.2.1 u.2.2.2.2.2)
   rw [if_neg (by omega),if_neg (by omega),if_neg (by omega)]
   exact ⟨.inr (.inr ⟨rfl,by simp only;omega,by simp only;omega⟩),.inr (.inl ⟨u.1,u.2.1,u.2.2.1,u.2.2.2.1⟩),by simp only;omega,by simp only;omega⟩
 obtain ⟨h1,h2,h3,h4⟩:=key
 unfold wEP
 split
 ·exact ⟨h1,h2,h3⟩
 ·exact ⟨h2,h1,h4⟩
def two (kind skier i:Nat):List wAN:=[⟨kind,skier,i,true⟩,⟨kind,skier,i,false⟩]
def wLQ (kind skier m:Nat):List wAN:=(nO m).flatMap (two kind skier)
def skL (kind ns m:Nat):List wAN:=(nO ns).flatMap fun s=>wLQ kind s m
def wLR (r:wAF):List wAN:=skL 0 r.Starts.length 1 ++ (skL 1 r.Starts.length r.Splits.length ++ (skL 2 1 r.Clocks.length ++ skL 3 1 r.Readings.length))
theorem wTv {kind ns m:Nat} {x:wAN}:x ∈ skL kind ns m ↔ x.Kind=kind/\0 <= x.Skier/\x.Skier < ns/\0 <= x.Index/\x.Index < m:=by
 unfold skL wLQ two
 simp only [List.mem_flatMap,kQ,nW,List.not_mem_nil,or_false]
 constructor
 ·rintro ⟨s,hs,i,hi,rfl | rfl⟩ <;> exact ⟨rfl,by simp only;omega,by simp only;omega,by simp only;omega,by simp only;omega⟩
 ·rintro ⟨a,b,c,d,e⟩
  refine ⟨x.Skier.toNat,by omega,x.Index.toNat,by omega,?_⟩
  obtain ⟨k,s,i,u⟩:=x
  simp only at a b c d e
  subst a
  rw [nQ b,nQ d]
  cases u <;> simp
theorem wGJ {r:wAF} {x:wAN}:x ∈ wLR r ↔ wFK r x:=by
 unfold wLR wFK
 simp only [nM,wTv]
 omega
theorem wTw (kind ns m:Nat):(skL kind ns m).length=2 * m * ns:=by
 unfold skL wLQ
 rw [ku]
 have:∀ s:Nat,((nO m).flatMap (two kind s)).length=2 * m:=fun s=>by
  rw [ku]
  have e:(nO m).map (fun a=>(two kind s a).length)=nJ m 2:=by
   apply List.ext_getElem (by simp)
   intro i h1 h2
   simp [two]
  rw [e,kf]
  omega
 have e:(nO ns).map (fun s=>((nO m).flatMap (two kind s)).length)=nJ ns (2 * m):=by
  apply List.ext_getElem (by simp)
  intro i h1 h2
  simp [this]
 rw [e,kf,Nat.mul_comm]
theorem wLS {r:wAF} (C:RC r):(wLR r).length <= 216:=by
 unfold wLR
 simp only [nI,wTw]
 have hm:=C.m;have hc:=C.c;have hq:=C.q;have hn:=C.n
 have h1:2 * r.Splits.length * r.Starts.length <= 14 * 8:=Nat.mul_le_mul (by omega) hn.2
 omega
section
variable {S E:Type}
def wKb (f:S->wAN->Option (S ⊕ E)):List wAN->S->Option (S ⊕ E)
 | [],s=>some (.inl s)
 | x :: l,s=>(f s x).bind fun y=>match y with
  | .inl s'=>wKb f l s'
  | .inr e=>some (.inr e)
theorem wMu (f:S->wAN->Option (S ⊕ E)):∀ (l m:List wAN) (s:S),wKb f (l ++ m) s=(wKb f l s).bind fun y=>match y with
  | .inl s'=>wKb f m s'
  | .inr e=>some (.inr e)
 | [],_,_=>rfl
 | x :: l,m,s=>by
  rw [kH,wKb,wKb]
  cases f s x with
  | none=>rfl
  | some y=>cases y with
   | inl s'=>exact wMu f l m s'
   | inr e=>rfl
def lif {B:Type} (k:E->B) (x:Option (S ⊕ E)):Option (S ⊕ B):=x.bind fun y=>match y with
 | .inl s=>some (.inl s)
 | .inr e=>some (.inr (k e))
theorem wIA {B:Type} (k:E->B) {body:Nat->S->Option (S ⊕ B)} {f:S->wAN->Option (S ⊕ E)} {L:Nat->List wAN}:∀ (m i:Nat) (s:S),(∀ j s,i <= j->j < i + m->body j s=lif k (wKb f (L j) s))->forN body m i s=lif k (wKb f ((List.range' i m).flatMap L) s)
 | 0,_,_,_=>rfl
 | m + 1,i,s,h=>by
  rw [forN,h i s (nP _) (by omega),List.range'_succ,aD,wMu]
  cases wKb f (L i) s with
  | none=>rfl
  | some y=>cases y with
   | inl s'=>exact wIA k m (i + 1) s' fun j s h1 h2=>h j s (by omega) (by omega)
   | inr e=>rfl
theorem wSF {B:Type} (k:E->B) (x:Option (S ⊕ E)):jn (lif (fun e=>(.inr (k e):S ⊕ B)) x) (fun y=>some (.inl y))=lif k x:=by
 cases x with
 | none=>rfl
 | some y=>cases y <;> rfl
theorem wVu (x:Option (S ⊕ E)):jn (lif (fun e=>(.inr e:S ⊕ E)) x) (fun y=>some (.inl y))=x:=by
 cases x with
 | none=>rfl
 | some y=>cases y <;> rfl
theorem wVv (f:S->wAN->Option (S ⊕ E)) (kind skier i:Nat) (s:S):((f s (⟨(kind:Int),(skier:Int),(i:Int),true⟩:wAN)).bind fun yr141 =>
          match yr141 with
          | .inl s151 =>
            (f s151 (⟨(kind:Int),(skier:Int),(i:Int),false⟩:wAN)).bind fun yr154 =>
            match yr154 with
            | .inl s164 =>
              some (.inl s164)
            | .inr s164 =>
              esc (esc (esc (some (.inr s164))))
          | .inr s151 =>
            esc (esc (esc (some (.inr s151)))))=lif (fun e=>(.inr (.inr (.inr e)):S ⊕ (S ⊕ (S ⊕ E)))) (wKb f (two kind skier i) s):=by
  unfold two
  rw [wKb]
  cases f s (⟨(kind:Int),(skier:Int),(i:Int),true⟩:wAN) with
  | none=>rfl
  | some y=>cases y with
    | inr e=>rfl
    | inl s' =>
      simp only [nA]
      rw [wKb]
      cases f s' (⟨(kind:Int),(skier:Int),(i:Int),false⟩:wAN) with
      | none=>rfl
      | some y=>cases y <;> rfl
theorem wPm (f:S->wAN->Option (S ⊕ E)) (s0:S) {r:wAF} (C:RC r):wCH f s0 r=wKb f (wLR r) s0:=by
  unfold wCH
  have hm:=C.m;have hc:=C.c;have hq:=C.q;have hn:=C.n
  have inner:∀ (kind skier m:Nat) (s:S),m <= 1000->(wGR 0 (m:Int) (fun k113 s111 =>
          (f s111 (⟨(kind:Int),(skier:Int),(↑k113:Int),true⟩:wAN)).bind fun yr141 =>
          match yr141 with
          | .inl s151 =>
            (f s151 (⟨(kind:Int),(skier:Int),(↑k113:Int),false⟩:wAN)).bind fun yr154 =>
            match yr154 with
            | .inl s164 =>
              some (.inl s164)
            | .inr s164 =>
              esc (esc (esc (some (.inr s164))))
          | .inr s151 =>
            esc (esc (esc (some (.inr s151))))) s)=lif (fun e=>(.inr (.inr (.inr e)):S ⊕ (S ⊕ (S ⊕ E)))) (wKb f (wLQ kind skier m) s):=fun kind skier m s hm=>by
    rw [wEs (by omega),wIA (fun e=>(.inr (.inr (.inr e)):S ⊕ (S ⊕ (S ⊕ E)))) (f:=f) (L:=two kind skier) m 0 s fun j s _ _=>wVv f kind skier j s,<- kl]
    rfl
  have skier:∀ (kind ns m:Nat) (s:S),ns <= 1000->m <= 1000->(jn (wGR 0 (ns:Int) (fun k78 s76 =>
        jn (wGR 0 (m:Int) (fun k113 s111 =>
          (f s111 (⟨(kind:Int),(↑k78:Int),(↑k113:Int),true⟩:wAN)).bind fun yr141 =>
          match yr141 with
          | .inl s151 =>
            (f s151 (⟨(kind:Int),(↑k78:Int),(↑k113:Int),false⟩:wAN)).bind fun yr154 =>
            match yr154 with
            | .inl s164 =>
              some (.inl s164)
            | .inr s164 =>
              esc (esc (esc (some (.inr s164))))
          | .inr s151 =>
            esc (esc (esc (some (.inr s151))))) s76) fun y195 =>
        some (.inl y195)) s) fun y219 =>
      some (.inl y219))=lif (fun e=>(.inr e:S ⊕ E)) (wKb f (skL kind ns m) s):=fun kind ns m s hns hm=>by
    rw [wEs (by omega),wIA (fun e=>(.inr (.inr e):S ⊕ (S ⊕ E))) (f:=f) (L:=fun q=>wLQ kind q m) ns 0 s fun j s _ _=>by rw [inner kind j m s hm,wSF],wSF,<- kl]
    rfl
  unfold wGR
  rw [if_pos (by omega)]
  show jn (forN _ 4 0 s0) _=_
  rw [wIA (fun e=>(.inr e:S ⊕ E)) (f:=f) (L:=fun k=>if k=0 then skL 0 r.Starts.length 1 else if k=1 then skL 1 r.Starts.length r.Splits.length else if k=2 then skL 2 1 r.Clocks.length else skL 3 1 r.Readings.length) 4 0 s0 fun j s _ hj=>?_,wVu]
  · congr 1
    show List.flatMap _ [0,1,2,3]=_
    simp only [aD,List.flatMap_nil,List.append_nil]
    rfl
  · have:j=0 \/ j=1 \/ j=2 \/ j=3:=by omega
    rcases this with rfl | rfl | rfl | rfl
    · exact skier 0 r.Starts.length 1 s (by omega) (by omega)
    · exact skier 1 r.Starts.length r.Splits.length s (by omega) (by omega)
    · exact skier 2 1 r.Clocks.length s (by omega) (by omega)
    · exact skier 3 1 r.Readings.length s (by omega) (by omega)
end
def wFo:List Pt->Nat->List (Pt × Int)
 | [],_=>[]
 | p :: l,k=>(p,(k:Int)) :: wFo l (k + 1)
theorem wKU:∀ (l:List Pt) (k:Nat),(wFo l k).length=l.length
 | [],_=>rfl
 | _ :: l,k=>by rw [wFo,nY,nY,wKU l]
theorem wMv:∀ (l:List Pt) (p:Pt) (k:Nat),wFo (l ++ [p]) k=wFo l k ++ [(p,((k + l.length:Nat):Int))]
 | [],p,k=>by simp [wFo]
 | a :: l,p,k=>by
  rw [kH,wFo,wFo,wMv l p (k + 1),kH,nY]
  congr 4
  omega
theorem wMw:∀ {l:List Pt} {k:Nat} {p:Pt},p ∉ l->wHn (wFo l k) p=none/\∀ v,mput (wFo l k) p v=wFo l k ++ [(p,v)]
 | [],_,_,_=>⟨rfl,fun _=>rfl⟩
 | a :: l,k,p,h=>by
  rw [nW,not_or] at h
  obtain ⟨h1,h2⟩:=wMw (l:=l) (k:=k + 1) h.2
  refine ⟨by rw [wFo,wHn,if_neg h.1];exact h1,fun v=>?_⟩
  rw [wFo,mput,if_neg h.1,h2 v];rfl
theorem wPn:∀ {l:List Pt} {k i:Nat},l.Nodup->i < l.length->wHn (wFo l k) (gd l i)=some ((k + i:Nat):Int)
 | a :: l,k,0,_,_=>by
  rw [wFo,wHn]
  exact if_pos rfl
 | a :: l,k,i + 1,nd,hi=>by
  rw [List.nodup_cons] at nd
  have hi':i < l.length:=by simpa using hi
  have e:gd (a :: l) (i + 1)=gd l i:=rfl
  have hne:gd l i ≠ a:=fun h=>nd.1 (h ▸ wCW hi')
  rw [e,wFo,wHn,if_neg hne,wPn nd.2 hi']
  congr 2
  omega
def pos (pts:List Pt) (p:Pt):Nat:=(wBU (wFo pts 0) p 0).toNat
theorem wMx {α:Type} [Inhabited α] {l:List α} {a:α} (h:a ∈ l):∃ i,i < l.length/\gd l i=a:=by
 obtain ⟨i,hi,e⟩:=List.getElem_of_mem h
 exact ⟨i,hi,by rw [wGs hi,e]⟩
theorem wMy {pts:List Pt} (nd:pts.Nodup) {i:Nat} (hi:i < pts.length):pos pts (gd pts i)=i/\wBU (wFo pts 0) (gd pts i) 0=(i:Int)/\wJi (wFo pts 0) (gd pts i)=true:=by
 unfold pos wBU wJi
 rw [wPn nd hi]
 simp
theorem wJY {pts:List Pt} (nd:pts.Nodup) {p:Pt} (h:p ∈ pts):pos pts p < pts.length/\gd pts (pos pts p)=p/\wBU (wFo pts 0) p 0=(pos pts p:Int)/\wJi (wFo pts 0) p=true:=by
 obtain ⟨i,hi,rfl⟩:=wMx h
 obtain ⟨h1,h2,h3⟩:=wMy nd hi
 rw [h1]
 exact ⟨hi,rfl,h2,h3⟩
def wIt (pts:List Pt) (p:Pt):List Pt:=if p ∈ pts then pts else pts ++ [p]
theorem wMH {pts:List Pt} (nd:pts.Nodup) (p:Pt):(wIt pts p).Nodup:=by
 unfold wIt
 split
 ·exact nd
 ·rename_i h
  rw [List.nodup_append]
  exact ⟨nd,by simp,fun a ha b hb e=>h (by rw [nZ.1 hb] at e;exact e ▸ ha)⟩
theorem wEj {pts:List Pt} {p q:Pt}:q ∈ wIt pts p ↔ q ∈ pts \/ q=p:=by
 unfold wIt
 split
 ·rename_i h
  exact ⟨.inl,fun e=>e.elim id fun e=>e ▸ h⟩
 ·rw [nM,nZ]
theorem wMz (pts:List Pt) (p:Pt):pts.length <= (wIt pts p).length/\(wIt pts p).length <= pts.length + 1:=by
 unfold wIt
 split <;> simp
theorem wNA {pts:List Pt} (nd:pts.Nodup) {p q:Pt} (h:q ∈ pts):wBU (wFo (wIt pts p) 0) q 0=wBU (wFo pts 0) q 0:=by
 unfold wIt
 split
 ·rfl
 ·rename_i hp
  obtain ⟨i,hi,rfl⟩:=wMx h
  have e:gd (pts ++ [p]) i=gd pts i:=wEi hi
  have nd2:=wMH nd p
  unfold wIt at nd2
  rw [if_neg hp] at nd2
  rw [(wMy nd hi).2.1,<- e,(wMy nd2 (by rw [nI];omega)).2.1]
theorem wNB {pts:List Pt} (nd:pts.Nodup) (p:Pt):(if (wJi (wFo pts 0) p)=true then some (wFo pts 0) else some (mput (wFo pts 0) p (↑((wFo pts 0).length):Int)))=some (wFo (wIt pts p) 0):=by
 by_cases h:p ∈ pts
 ·rw [if_pos (wJY nd h).2.2.2,wIt,if_pos h]
 ·have ho:=wMw (k:=0) h
  have hn:¬ wJi (wFo pts 0) p=true:=by unfold wJi;rw [ho.1];simp
  rw [if_neg hn,ho.2,wIt,if_neg h,wMv,wKU,nm]
theorem wPo {pts:List Pt} {p:Pt} {i:Nat} (h:i < pts.length):gd (wIt pts p) i=gd pts i:=by
 unfold wIt
 split
 ·rfl
 ·exact wEi h
def mkE (r:wAF) (pts:List Pt) (x:wAN):wAm:=⟨x,wBU (wFo pts 0) (wEP r x).1 0,wBU (wFo pts 0) (wEP r x).2.1 0,(wEP r x).2.2⟩
structure Desk (r:wAF) (d:wAx) (pts:List Pt):Prop where
 c:RC r
 race:d.Race=r
 num:d.number=wFo pts 0
 nd:pts.Nodup
 len:1 <= pts.length/\pts.length <= 433
 zero:gd pts 0=zp
 all:∀ p,p ∈ pts ↔ wKT r p
 edges:d.edges=(wLR r).map (mkE r pts)
structure OpI (r:wAF) (pre:List wAN) (s:List wAm × List (Pt × Int)) (pts:List Pt):Prop where
 num:s.2=wFo pts 0
 nd:pts.Nodup
 len:1 <= pts.length/\pts.length <= 1 + 2 * pre.length
 zero:gd pts 0=zp
 ok:∀ p ∈ pts,wKT r p
 has:∀ x ∈ pre,(wEP r x).1 ∈ pts/\(wEP r x).2.1 ∈ pts
 edges:s.1=pre.map (mkE r pts)
def opF (r:wAF):List wAm × List (Pt × Int)->wAN->Option ((List wAm × List (Pt × Int)) ⊕ Empty):=fun (l1591,l1595) x1616 =>
 (wCD r x1616).bind fun (x1652,x1653,x1654) =>
 (wBp 0 2 (fun k1692 l1689 =>
 (idx ([x1652,x1653]:List wAJ) (↑k1692:Int)).bind fun x1718 =>
 if (wJi l1689 x1718)=true then
 some l1689
 else
 some (mput l1689 x1718 (↑(l1689.length):Int))) l1595).bind fun y1697 =>
 (app 56 l1591 [(⟨x1616,(wBU y1697 x1652 0),(wBU y1697 x1653 0),x1654⟩:wAm)]).bind fun x1773 =>
 some (.inl (x1773,y1697))
theorem wVw {r:wAF} (C:RC r) {pre:List wAN} (hp:pre.length <= 216) {x:wAN} (hx:wFK r x) {s:List wAm × List (Pt × Int)} {pts:List Pt} (I:OpI r pre s pts):∃ s' pts',opF r s x=some (.inl s')/\OpI r (pre ++ [x]) s' pts':=by
 obtain ⟨es,num⟩:=s
 obtain ⟨hn,nd,hl,hz,ok,has,he⟩:=I
 simp only at hn he
 subst hn he
 obtain ⟨o1,o2,_,_⟩:=wHk C hx
 unfold opF
 simp only
 rw [wRF C hx,nA]
 have nd1:=wMH nd (wEP r x).1
 have nd2:=wMH nd1 (wEP r x).2.1
 have loop:(wBp 0 2 (fun k1692 l1689 =>
   (idx ([(wEP r x).1,(wEP r x).2.1]:List wAJ) (↑k1692:Int)).bind fun x1718 =>
   if (wJi l1689 x1718)=true then
    some l1689
   else
    some (mput l1689 x1718 (↑(l1689.length):Int))) (wFo pts 0))=some (wFo (wIt (wIt pts (wEP r x).1) (wEP r x).2.1) 0):=by
  unfold wBp
  rw [if_pos (by omega)]
  show forN' _ 2 0 (wFo pts 0)=_
  have i0:idx ([(wEP r x).1,(wEP r x).2.1]:List wAJ) ((0:Nat):Int)=some (wEP r x).1:=rfl
  have i1:idx ([(wEP r x).1,(wEP r x).2.1]:List wAJ) ((0 + 1:Nat):Int)=some (wEP r x).2.1:=rfl
  simp only [forN',i0,i1,nA]
  rw [wNB nd]
  simp only
  rw [wNB nd1]
 rw [loop,nA,wER (by rw [ka];simp only [nY,kb];omega),nA]
 have l1:=wMz pts (wEP r x).1
 have l2:=wMz (wIt pts (wEP r x).1) (wEP r x).2.1
 have same:∀ q ∈ pts,wBU (wFo (wIt (wIt pts (wEP r x).1) (wEP r x).2.1) 0) q 0=wBU (wFo pts 0) q 0:=fun q hq=>by
  rw [wNA nd1 (wEj.2 (.inl hq)),wNA nd hq]
 refine ⟨_,wIt (wIt pts (wEP r x).1) (wEP r x).2.1,rfl,rfl,nd2,⟨by omega,by rw [nI,nU];omega⟩,?_,fun p hp=>?_,fun y hy=>?_,?_⟩
 ·rw [wPo (by omega),wPo (by omega),hz]
 ·rcases wEj.1 hp with hp | rfl
  ·rcases wEj.1 hp with hp | rfl
   ·exact ok p hp
   ·exact o1
  ·exact o2
 ·rcases nM.1 hy with hy | hy
  ·obtain ⟨a,b⟩:=has y hy
   exact ⟨wEj.2 (.inl (wEj.2 (.inl a))),wEj.2 (.inl (wEj.2 (.inl b)))⟩
  ·have:=nZ.1 hy
   subst this
   exact ⟨wEj.2 (.inl (wEj.2 (.inr rfl))),wEj.2 (.inr rfl)⟩
 ·simp only
  rw [List.map_append]
  congr 1
  refine nz fun y hy=>?_
  obtain ⟨a,b⟩:=has y hy
  unfold mkE
  rw [same _ a,same _ b]
theorem skip (r:wAF) (p:Pt) (h:wKT r p) (C:RC r):p=zp \/ ∃ x,wFK r x/\(wEP r x).2.1=p:=by
 rcases h with h | ⟨a,b,c,d⟩ | ⟨a,b,c⟩
 ·exact .inl h
 ·right
  by_cases e:p.mat=0
  ·refine ⟨⟨0,p.skier,0,true⟩,.inl ⟨rfl,a,b,rfl⟩,?_⟩
   show (⟨p.skier,0⟩:Pt)=p
   rw [<- e]
  ·refine ⟨⟨1,p.skier,p.mat - 1,true⟩,.inr (.inl ⟨rfl,a,b,by simp only;omega,by simp only;omega⟩),?_⟩
   show (⟨p.skier,p.mat - 1 + 1⟩:Pt)=p
   rw [nr]
 ·right
  refine ⟨⟨2,0,p.mat - 1,true⟩,.inr (.inr (.inl ⟨rfl,rfl,by simp only;omega,by simp only;omega⟩)),?_⟩
  show (⟨-1,1 + (p.mat - 1)⟩:Pt)=p
  rw [<- a,kW,nr]
theorem wPp {r:wAF} (C:RC r):∃ d pts,wEF r=some d/\Desk r d pts:=by
 unfold wEF wDk wDR
 simp only [nA]
 rw [wPm _ _ C]
 have hlen:=wLS C
 have key:∀ (l pre:List wAN) (s:List wAm × List (Pt × Int)) (pts:List Pt),OpI r pre s pts->pre.length + l.length <= 216->(∀ x ∈ l,wFK r x)->∃ s' pts',wKb (opF r) l s=some (.inl s')/\OpI r (pre ++ l) s' pts':=by
  intro l
  induction l with
  | nil=>intro pre s pts I _ _;exact ⟨s,pts,rfl,by rw [List.append_nil];exact I⟩
  | cons x l ih =>
   intro pre s pts I hl hx
   simp only [nY] at hl
   obtain ⟨s1,p1,e,I1⟩:=wVw C (by omega) (hx x (by simp)) I
   obtain ⟨s2,p2,e2,I2⟩:=ih (pre ++ [x]) s1 p1 I1 (by rw [nI,nU];omega) fun y hy=>hx y (by simp [hy])
   refine ⟨s2,p2,by rw [wKb,e];exact e2,?_⟩
   rw [nh] at I2
   exact I2
 obtain ⟨⟨es,num⟩,pts,e,I⟩:=key (wLR r) [] ([],mput ([]:List (Pt × Int)) (⟨-1,0⟩:wAJ) 0) [zp] ⟨rfl,by simp,⟨by simp,by simp⟩,rfl,fun p hp=>.inl (nZ.1 hp),(fun x hx=>by cases hx),rfl⟩ (by simpa using hlen) fun x hx=>wGJ.1 hx
 rw [kO] at I
 have hz:zp ∈ pts:=I.zero ▸ wCW I.len.1
 refine ⟨⟨r,num,es⟩,pts,?_,C,rfl,I.num,I.nd,⟨I.len.1,by have:=I.len.2;omega⟩,I.zero,fun p=>⟨I.ok p,fun h=>?_⟩,I.edges⟩
 ·show (wKb (opF r) (wLR r) _).bind _=_
  rw [e]
  rfl
 ·rcases skip r p h C with rfl | ⟨x,hx,rfl⟩
  ·exact hz
  ·exact (I.has x (wGJ.2 hx)).2
def wEy (r:wAF) (y:Pt->Int):Prop:=∀ x,wFK r x->y (wEP r x).2.1 <= y (wEP r x).1 + (wEP r x).2.2
section
variable {r:wAF} {y:Pt->Int}
theorem fp0 (F:wEy r y) {s:Int} (h0:0 <= s) (h1:s < r.Starts.length):y ⟨s,0⟩=y zp + gd r.Starts s.toNat:=by
 have a:y ⟨s,0⟩ <= y zp + gd r.Starts s.toNat:=F ⟨0,s,0,true⟩ (.inl ⟨rfl,h0,h1,rfl⟩)
 have b:y zp <= y ⟨s,0⟩ + -gd r.Starts s.toNat:=F ⟨0,s,0,false⟩ (.inl ⟨rfl,h0,h1,rfl⟩)
 omega
theorem fp1 (F:wEy r y) {s k:Int} (h0:0 <= s) (h1:s < r.Starts.length) (k0:0 <= k) (k1:k < r.Splits.length):y ⟨s,k⟩ + (gd r.Splits k.toNat).Lo <= y ⟨s,k + 1⟩/\y ⟨s,k + 1⟩ <= y ⟨s,k⟩ + (gd r.Splits k.toNat).Hi:=by
 have a:y ⟨s,k + 1⟩ <= y ⟨s,k⟩ + (gd r.Splits k.toNat).Hi:=F ⟨1,s,k,true⟩ (.inr (.inl ⟨rfl,h0,h1,k0,k1⟩))
 have b:y ⟨s,k⟩ <= y ⟨s,k + 1⟩ + -(gd r.Splits k.toNat).Lo:=F ⟨1,s,k,false⟩ (.inr (.inl ⟨rfl,h0,h1,k0,k1⟩))
 omega
theorem fp2 (F:wEy r y) {k:Int} (k0:0 <= k) (k1:k < r.Clocks.length):y ⟨-1,1 + k⟩ <= y zp - (gd r.Clocks k.toNat).Offset.Lo/\y zp <= y ⟨-1,1 + k⟩ + (gd r.Clocks k.toNat).Offset.Hi:=by
 have a:y ⟨-1,1 + k⟩ <= y zp + -(gd r.Clocks k.toNat).Offset.Lo:=F ⟨2,0,k,true⟩ (.inr (.inr (.inl ⟨rfl,rfl,k0,k1⟩)))
 have b:y zp <= y ⟨-1,1 + k⟩ + (gd r.Clocks k.toNat).Offset.Hi:=F ⟨2,0,k,false⟩ (.inr (.inr (.inl ⟨rfl,rfl,k0,k1⟩)))
 omega
theorem wRG (C:RC r) (F:wEy r y) {p:Pt} (hp:wKT r p):-3300000 <= y p - y zp/\y p - y zp <= 3300000:=by
 rcases hp with rfl | ⟨a,b,c,d⟩ | ⟨a,b,c⟩
 ·omega
 ·have key:∀ k:Nat,(k:Int) <= r.Splits.length->0 <= y ⟨p.skier,k⟩ - y zp/\y ⟨p.skier,k⟩ - y zp <= 360000 * ((k:Int) + 1):=by
   intro k
   induction k with
   | zero =>
    intro _
    have:=fp0 F a b
    have:=C.st _ (wDQ a b)
    show 0 <= y ⟨p.skier,0⟩ - y zp/\y ⟨p.skier,0⟩ - y zp <= _
    omega
   | succ k ih =>
    intro hk
    have h:=ih (by omega)
    have f:=fp1 F a b (k:=(k:Int)) (by omega) (by omega)
    have g:=C.sp _ (wDQ (l:=r.Splits) (i:=(k:Int)) (by omega) (by omega))
    have e:((k + 1:Nat):Int)=(k:Int) + 1:=by omega
    rw [e]
    omega
  have:=key p.mat.toNat (by omega)
  rw [nQ c] at this
  have hm:=C.m
  have e:(⟨p.skier,p.mat⟩:Pt)=p:=rfl
  rw [e] at this
  omega
 ·have f:=fp2 F (k:=p.mat - 1) (by omega) (by omega)
  have g:=(C.ck _ (wDQ (l:=r.Clocks) (i:=p.mat - 1) (by omega) (by omega))).1
  have e:(⟨-1,1 + (p.mat - 1)⟩:Pt)=p:=by rw [<- a,kW,nr]
  rw [e] at f
  omega
theorem to_zp {S:Pt->Prop} (hS:∀ x,wFK r x->S (wEP r x).1->S (wEP r x).2.1) {p:Pt} (hp:wKT r p) (h:S p):S zp:=by
 rcases hp with rfl | ⟨a,b,c,d⟩ | ⟨a,b,c⟩
 ·exact h
 ·have key:∀ k:Nat,(k:Int) <= r.Splits.length->S ⟨p.skier,k⟩->S zp:=by
   intro k
   induction k with
   | zero=>intro _ hk;exact hS ⟨0,p.skier,0,false⟩ (.inl ⟨rfl,a,b,rfl⟩) hk
   | succ k ih =>
    intro hk h
    refine ih (by omega) ?_
    have e:((k + 1:Nat):Int)=(k:Int) + 1:=by omega
    rw [e] at h
    exact hS ⟨1,p.skier,k,false⟩ (.inr (.inl ⟨rfl,a,b,by simp only;omega,by simp only;omega⟩)) h
  refine key p.mat.toNat (by omega) ?_
  rw [nQ c];exact h
 ·have e:(⟨-1,1 + (p.mat - 1)⟩:Pt)=p:=by rw [<- a,kW,nr]
  refine hS ⟨2,0,p.mat - 1,false⟩ (.inr (.inr (.inl ⟨rfl,rfl,by simp only;omega,by simp only;omega⟩))) ?_
  show S ⟨-1,1 + (p.mat - 1)⟩
  rw [e];exact h
theorem of_zp {S:Pt->Prop} (hS:∀ x,wFK r x->S (wEP r x).1->S (wEP r x).2.1) (h:S zp) {p:Pt} (hp:wKT r p):S p:=by
 rcases hp with rfl | ⟨a,b,c,d⟩ | ⟨a,b,c⟩
 ·exact h
 ·have key:∀ k:Nat,(k:Int) <= r.Splits.length->S ⟨p.skier,k⟩:=by
   intro k
   induction k with
   | zero=>intro _;exact hS ⟨0,p.skier,0,true⟩ (.inl ⟨rfl,a,b,rfl⟩) h
   | succ k ih =>
    intro hk
    have e:((k + 1:Nat):Int)=(k:Int) + 1:=by omega
    rw [e]
    exact hS ⟨1,p.skier,k,true⟩ (.inr (.inl ⟨rfl,a,b,by simp only;omega,by simp only;omega⟩)) (ih (by omega))
  have:=key p.mat.toNat (by omega)
  rw [nQ c] at this
  exact this
 ·have e:(⟨-1,1 + (p.mat - 1)⟩:Pt)=p:=by rw [<- a,kW,nr]
  have:=hS ⟨2,0,p.mat - 1,true⟩ (.inr (.inr (.inl ⟨rfl,rfl,by simp only;omega,by simp only;omega⟩))) h
  rw [<- e];exact this
def turn (x:wAN):wAN:=⟨x.Kind,x.Skier,x.Index,!x.Up⟩
theorem wTx {x:wAN} (h:wFK r x):wFK r (turn x)/\(wEP r (turn x)).1=(wEP r x).2.1/\(wEP r (turn x)).2.1=(wEP r x).1:=by
 refine ⟨h,?_⟩
 obtain ⟨k,s,i,u⟩:=x
 unfold wEP turn
 cases u <;> exact ⟨rfl,rfl⟩
structure IsDP (r:wAF) (a:Pt) (f:Pt->Int):Prop where
 ok:wEy r f
 zero:f a=0
 gr:∀ y,wEy r y->∀ p,wKT r p->y p - y a <= f p
theorem IsDP.one {a:Pt} {f g:Pt->Int} (F:IsDP r a f) (G:IsDP r a g) {p:Pt} (hp:wKT r p):f p=g p:=by
 have h1:=F.gr g G.ok p hp
 have h2:=G.gr f F.ok p hp
 have:=F.zero;have:=G.zero
 omega
end
section
variable {r:wAF} {d:wAx} {pts:List Pt} (D:Desk r d pts)
include D
theorem Desk.pos_ok {p:Pt} (hp:wKT r p):pos pts p < pts.length/\gd pts (pos pts p)=p/\wBU d.number p 0=(pos pts p:Int):=by
 obtain ⟨h1,h2,h3,_⟩:=wJY D.nd ((D.all p).2 hp)
 exact ⟨h1,h2,by rw [D.num];exact h3⟩
theorem Desk.gd_ok {v:Nat} (hv:v < pts.length):wKT r (gd pts v)/\pos pts (gd pts v)=v:=⟨(D.all _).1 (wCW hv),(wMy D.nd hv).1⟩
theorem Desk.ed_is {x:wAN} (h:wFK r x) (p:Bool):ed p (mkE r pts x)=if p then ⟨pos pts (wEP r x).2.1,pos pts (wEP r x).1,(wEP r x).2.2⟩ else ⟨pos pts (wEP r x).1,pos pts (wEP r x).2.1,(wEP r x).2.2⟩:=by
 obtain ⟨o1,o2,_,_⟩:=wHk D.c h
 have h1:=(wJY D.nd ((D.all _).2 o1)).2.2.1
 have h2:=(wJY D.nd ((D.all _).2 o2)).2.2.1
 unfold ed mkE
 simp only [h1,h2,nR]
theorem Desk.mem {p:Bool} {e:Ed}:e ∈ d.edges.map (ed p) ↔ ∃ x,wFK r x/\e=ed p (mkE r pts x):=by
 rw [D.edges,List.map_map]
 constructor
 ·intro h
  obtain ⟨x,hx,rfl⟩:=nc.1 h
  exact ⟨x,wGJ.1 hx,rfl⟩
 ·rintro ⟨x,hx,rfl⟩
  exact nc.2 ⟨x,wGJ.2 hx,rfl⟩
theorem Desk.edOK:∀ e ∈ d.edges,EdOK pts.length e:=by
 intro e he
 rw [D.edges] at he
 obtain ⟨x,hx,rfl⟩:=nc.1 he
 have h:=wGJ.1 hx
 obtain ⟨o1,o2,c1,c2⟩:=wHk D.c h
 obtain ⟨h1,_,h2,_⟩:=wJY D.nd ((D.all _).2 o1)
 obtain ⟨g1,_,g2,_⟩:=wJY D.nd ((D.all _).2 o2)
 unfold mkE
 rw [h2,g2]
 exact ⟨by simp only;omega,by simp only;omega,by simp only;omega,by simp only;omega,c1,c2⟩
theorem Desk.elen:d.edges.length <= 1000:=by
 have:=wLS D.c
 rw [D.edges,ka]
 omega
theorem Desk.feas {y:Pt->Int} (F:wEy r y):wIs (d.edges.map (ed false)) fun v=>y (gd pts v):=by
 intro e he
 obtain ⟨x,hx,rfl⟩:=D.mem.1 he
 obtain ⟨o1,o2,_,_⟩:=wHk D.c hx
 rw [D.ed_is hx]
 simp only [nE,if_false]
 rw [(D.pos_ok o1).2.1,(D.pos_ok o2).2.1]
 exact F x hx
theorem Desk.back {z:Nat->Int} (F:wIs (d.edges.map (ed false)) z):wEy r fun p=>z (pos pts p):=by
 intro x hx
 have:=F _ (D.mem.2 ⟨x,hx,rfl⟩)
 rw [D.ed_is hx] at this
 simp only [nE,if_false] at this
 exact this
theorem Desk.backT {z:Nat->Int} (F:wIs (d.edges.map (ed true)) z):wEy r fun p=>-z (pos pts p):=by
 intro x hx
 have:=F _ (D.mem.2 ⟨x,hx,rfl⟩)
 rw [D.ed_is hx] at this
 simp only [if_true] at this
 simp only
 omega
theorem Desk.con (p:Bool):Con pts.length 6600000 (d.edges.map (ed p)):=by
 refine ⟨fun e he=>?_,fun z hz a b ha hb=>?_,fun S i hi hSi hS v hv=>?_⟩
 ·obtain ⟨x,hx,rfl⟩:=D.mem.1 he
  obtain ⟨o1,o2,_,_⟩:=wHk D.c hx
  have h1:=(D.pos_ok o1).1
  have h2:=(D.pos_ok o2).1
  rw [D.ed_is hx]
  split
  ·exact ⟨h2,h1⟩
  ·exact ⟨h1,h2⟩
 ·obtain ⟨pa,ea⟩:=D.gd_ok ha
  obtain ⟨pb,eb⟩:=D.gd_ok hb
  cases p with
  | false =>
   have h1:=wRG D.c (D.back hz) pa
   have h2:=wRG D.c (D.back hz) pb
   simp only [ea,eb] at h1 h2
   omega
  | true =>
   have h1:=wRG D.c (D.backT hz) pa
   have h2:=wRG D.c (D.backT hz) pb
   simp only [ea,eb] at h1 h2
   omega
 ·have hcl:∀ x,wFK r x->S (pos pts (wEP r x).1)->S (pos pts (wEP r x).2.1):=fun x hx h=>by
   cases p with
   | false =>
    have:=hS _ (D.mem.2 ⟨x,hx,rfl⟩)
    rw [D.ed_is hx] at this
    simp only [nE,if_false] at this
    exact this h
   | true =>
    obtain ⟨t1,t2,t3⟩:=wTx hx
    have:=hS _ (D.mem.2 ⟨_,t1,rfl⟩)
    rw [D.ed_is t1] at this
    simp only [if_true] at this
    rw [t2,t3] at this
    exact this h
  obtain ⟨pi,ei⟩:=D.gd_ok hi
  obtain ⟨pv,ev⟩:=D.gd_ok hv
  have:=of_zp (S:=fun q=>S (pos pts q)) hcl (to_zp (S:=fun q=>S (pos pts q)) hcl pi (by show S (pos pts (gd pts i));rw [ei];exact hSi)) pv
  have this:S (pos pts (gd pts v)):=this
  rwa [ev] at this
theorem Desk.cost (p:Bool):∀ e ∈ d.edges.map (ed p),e.c <= 400000:=by
 intro e he
 obtain ⟨x,hx,rfl⟩:=D.mem.1 he
 obtain ⟨_,_,_,c⟩:=wHk D.c hx
 rw [D.ed_is hx]
 split <;> exact c
theorem Desk.nlen:d.number.length=pts.length:=by rw [D.num,wKU]
theorem Desk.any:∃ f last ok,wBN d (-1) false=some (f,last,ok)/\f.far.length=pts.length/\f.by_.length=pts.length/\(ok=true ↔ ∃ y,wEy r y)/\(ok=true->wEy r fun p=>gd f.far (pos pts p))/\(ok=false->0 <= last/\last < pts.length):=by
 obtain ⟨f,last,ok,e,bl,fl,h1,h2⟩:=wLP D.nlen D.len.1 (by have:=D.len.2;omega) D.edOK D.elen (-1) false
 have hp:0 < pts.length:=D.len.1
 have t0:wIp (-1) 0=0:=by unfold wIp;rw [if_pos (.inl (by omega))]
 have feas:ok=true->wEy r fun p=>gd f.far (pos pts p):=fun h=>D.back ((h1 h).feas (D.con false) (D.cost false) hp t0)
 refine ⟨f,last,ok,e,fl,bl,⟨fun h=>⟨_,feas h⟩,fun ⟨y,hy⟩=>?_⟩,feas,fun h=>⟨(h2 h).1,(h2 h).2.1⟩⟩
 cases ok with
 | true=>rfl
 | false =>
  exfalso
  obtain ⟨δ,M⟩:=wPg (D.con false) (D.feas hy) hp t0 (fun v _=>(wSE (-1) v).1)
  exact (h2 rfl).2.2 δ M fun v hv=>by have:=M.hi (D.con false) hp t0 v hv;omega
theorem Desk.from_ (hy:∃ y,wEy r y) {a:Pt} (ha:wKT r a):∃ f last,wBN d (pos pts a:Int) false=some (f,last,true)/\f.far.length=pts.length/\IsDP r a fun p=>gd f.far (pos pts p):=by
 obtain ⟨f,last,ok,e,bl,fl,h1,h2⟩:=wLP D.nlen D.len.1 (by have:=D.len.2;omega) D.edOK D.elen (pos pts a:Int) false
 obtain ⟨hp,hg,_⟩:=D.pos_ok ha
 have t0:wIp (pos pts a:Int) (pos pts a)=0:=by unfold wIp;rw [if_pos (.inr rfl)]
 obtain ⟨y,hy⟩:=hy
 have hok:ok=true:=by
  cases ok with
  | true=>rfl
  | false =>
   exfalso
   obtain ⟨δ,M⟩:=wPg (D.con false) (D.feas hy) hp t0 (fun v _=>(wSE _ v).1)
   exact (h2 rfl).2.2 δ M fun v hv=>by have:=M.hi (D.con false) hp t0 v hv;omega
 subst hok
 have I:=(h1 rfl).isD (by omega) (D.con false) (D.cost false) hp
 refine ⟨f,last,e,fl,D.back I.ok,I.zero,fun z hz p hpt=>?_⟩
 have:=I.gr _ (D.feas hz) (pos pts p) (D.pos_ok hpt).1
 simp only [hg,(D.pos_ok hpt).2.1] at this
 exact this
end
def inB (n lo hi:Int):Bool:=decide (lo <= n/\n <= hi)
theorem wMI (n lo hi:Int):wDI n lo hi=some (inB n lo hi):=by
 unfold wDI inB
 by_cases h:lo <= n
 ·rw [if_pos h];simp [h]
 ·rw [if_neg h];simp [h]
def wRH (s:wAI) (lo hi:Int):Bool:=decide (s.Lo <= s.Hi/\lo <= s.Lo/\s.Hi <= hi)
theorem wJZ (s:wAI) (lo hi:Int):wCx s lo hi=some (wRH s lo hi):=by
 unfold wCx wRH
 by_cases h:s.Lo <= s.Hi
 ·by_cases h2:lo <= s.Lo
  ·rw [if_pos h,if_pos h2];simp [h,h2]
  ·rw [if_pos h,if_neg h2];simp [h2]
 ·rw [if_neg h];simp [h]
theorem wPq {l:List Int} {f:Int->Option Bool} {p:Int->Bool} (hf:∀ a ∈ l,f a=some (p a)) (hn:l.length <= 1000):wCa l f=some (l.all p):=by
 unfold wCa
 refine (wHS (R:=Bool) (p:=p) (z:=false) (K:=fun _=>some true) (fun a ha=>?_) (by omega)).trans ?_
 ·rw [hf a ha,nA];split <;> rfl
 ·split <;> simp_all
theorem wNf {l:List wAI} {f:wAI->Option Bool} {p:wAI->Bool} (hf:∀ a ∈ l,f a=some (p a)) (hn:l.length <= 1000):wBk l f=some (l.all p):=by
 unfold wBk
 refine (wHS (R:=Bool) (p:=p) (z:=false) (K:=fun _=>some true) (fun a ha=>?_) (by omega)).trans ?_
 ·rw [hf a ha,nA];split <;> rfl
 ·split <;> simp_all
theorem wMJ {l:List wAK} {f:wAK->Option Bool} {p:wAK->Bool} (hf:∀ a ∈ l,f a=some (p a)) (hn:l.length <= 1000):wBe l f=some (l.all p):=by
 unfold wBe
 refine (wHS (R:=Bool) (p:=p) (z:=false) (K:=fun _=>some true) (fun a ha=>?_) (by omega)).trans ?_
 ·rw [hf a ha,nA];split <;> rfl
 ·split <;> simp_all
theorem wHT {l:List wAY} {f:wAY->Option Bool} {p:wAY->Bool} (hf:∀ a ∈ l,f a=some (p a)) (hn:l.length <= 1000):wBC l f=some (l.all p):=by
 unfold wBC
 refine (wHS (R:=Bool) (p:=p) (z:=false) (K:=fun _=>some true) (fun a ha=>?_) (by omega)).trans ?_
 ·rw [hf a ha,nA];split <;> rfl
 ·split <;> simp_all
structure wHU (r:wAF):Prop where
 n:r.Starts.length <= 10
 m:r.Splits.length <= 9
 c:r.Clocks.length <= 6
 q:r.Readings.length <= 44
def stP (s:Int):Bool:=inB s 0 360000
def spP (s:wAI):Bool:=wRH s 0 360000
def ckP (c:wAK):Bool:=wRH c.Offset (-36000) 36000 && inB c.Error 0 600
def rtP (x:wAY):Bool:=inB x.Time 0 360000
def ruP (r:wAF) (x:wAY):Bool:=inB x.Skier 0 ((r.Starts.length:Int) - 1) && (inB x.Mat 0 r.Splits.length && inB x.Clock 0 ((r.Clocks.length:Int) - 1))
def code (r:wAF):Int :=
 if ¬ (1 <= r.Starts.length/\r.Starts.length <= 8) then 2 else if 7 < r.Splits.length then 2 else if 4 < r.Clocks.length then 2 else if 40 < r.Readings.length then 2
 else if r.Starts.all stP=true then (if r.Splits.all spP=true then (if r.Clocks.all ckP=true then (if r.Readings.all rtP=true then (if r.Readings.all (ruP r)=true then 0 else 1) else 3) else 3) else 3) else 3
theorem wPr {r:wAF} (h:code r=0):RC r:=by
 unfold code at h
 split at h
 ·omega
 ·split at h
  ·omega
  ·split at h
   ·omega
   ·split at h
    ·omega
    ·split at h
     ·split at h
      ·split at h
       ·split at h
        ·split at h
         ·rename_i a1 a2 a3 a4 h1 h2 h3 h4 h5
          rw [nH] at h1 h2 h3 h4 h5
          refine ⟨by omega,by omega,by omega,by omega,fun s hs=>?_,fun s hs=>?_,fun s hs=>?_,fun s hs=>?_,fun s hs=>?_⟩
          ·have:=h1 s hs
           simp only [stP,inB,decide_eq_true_eq] at this
           exact this
          ·have:=h2 s hs
           simp only [spP,wRH,decide_eq_true_eq] at this
           exact this
          ·have:=h3 s hs
           simp only [ckP,wRH,inB,nB,decide_eq_true_eq] at this
           exact this
          ·have:=h4 s hs
           simp only [rtP,inB,decide_eq_true_eq] at this
           exact this
          ·have:=h5 s hs
           simp only [ruP,inB,nB,decide_eq_true_eq] at this
           omega
         ·omega
        ·omega
       ·omega
      ·omega
     ·omega
theorem wPs {r:wAF} (S:wHU r) (s:wAk):wBE r s=some (inB s.Skier 0 ((r.Starts.length:Int) - 1) && inB s.Mat 0 r.Splits.length):=by
 have:=S.n
 unfold wBE
 rw [wAX (by omega) (by omega),wMI,nA,wMI,nA]
 cases inB s.Skier 0 ((r.Starts.length:Int) - 1)
 ·rw [if_neg (by simp)];rfl
 ·rw [if_pos rfl,Bool.true_and]
theorem wNg {r:wAF} (S:wHU r):wEm r=some (code r):=by
 have hn:=S.n;have hm:=S.m;have hc:=S.c;have hq:=S.q
 unfold wEm code
 rw [wMI,nA]
 by_cases c1:1 <= r.Starts.length/\r.Starts.length <= 8
 ·have e1:inB (r.Starts.length:Int) 1 8=true:=by unfold inB;rw [decide_eq_true_eq];omega
  rw [e1,if_pos rfl,if_neg (show ¬ ¬ (1 <= r.Starts.length/\r.Starts.length <= 8) from fun h=>h c1)]
  by_cases c2:7 < r.Splits.length
  ·rw [if_pos (show (7:Int) < (r.Splits.length:Int) by omega),if_pos c2]
  ·rw [if_neg (show ¬ (7:Int) < (r.Splits.length:Int) by omega),if_neg c2]
   by_cases c3:4 < r.Clocks.length
   ·rw [if_pos (show (4:Int) < (r.Clocks.length:Int) by omega),if_pos c3]
   ·rw [if_neg (show ¬ (4:Int) < (r.Clocks.length:Int) by omega),if_neg c3]
    by_cases c4:40 < r.Readings.length
    ·rw [if_pos (show (40:Int) < (r.Readings.length:Int) by omega),if_pos c4]
    ·rw [if_neg (show ¬ (40:Int) < (r.Readings.length:Int) by omega),if_neg c4]
     rw [wPq (p:=stP) (fun a _=>by unfold wCw;rw [wMI];rfl) (by omega),nA]
     rw [wNf (p:=spP) (fun a _=>by unfold wCy;rw [wJZ];rfl) (by omega),nA]
     rw [wMJ (p:=ckP) (fun a _=>by
      unfold wCz ckP
      rw [wJZ,nA,wMI,nA]
      cases wRH a.Offset (-36000) 36000
      ·rw [if_neg (by simp)];rfl
      ·rw [if_pos rfl];rfl) (by omega),nA]
     rw [wHT (p:=rtP) (fun a _=>by unfold wDA;rw [wMI];rfl) (by omega),nA]
     rw [wHT (p:=ruP r) (fun a _=>by
      unfold wDB ruP
      rw [wPs S,nA,wAX (by omega) (by omega),wMI,nA]
      simp only
      cases inB a.Skier 0 ((r.Starts.length:Int) - 1)
      ·rw [if_neg (by simp)];rfl
      ·cases inB a.Mat 0 (r.Splits.length:Int)
       ·rw [if_neg (by simp)];rfl
       ·simp) (by omega),nA]
     split
     ·split
      ·split
       ·split
        ·split <;> rfl
        ·rfl
       ·rfl
      ·rfl
     ·rfl
 ·have e1:inB (r.Starts.length:Int) 1 8=false:=by unfold inB;rw [decide_eq_false_iff_not];omega
  rw [e1,if_neg (by simp),if_pos c1]
open Classical
def wMK (r:wAF) (s:wAk):Bool:=inB s.Skier 0 ((r.Starts.length:Int) - 1) && inB s.Mat 0 r.Splits.length
def pt (s:wAk):Pt:=⟨s.Skier,s.Mat⟩
theorem wTy {r:wAF} {s:wAk} (h:wMK r s=true):wKT r (pt s)/\0 <= s.Skier/\s.Skier < r.Starts.length/\0 <= s.Mat/\s.Mat <= r.Splits.length:=by
 simp only [wMK,inB,nB,decide_eq_true_eq] at h
 exact ⟨.inr (.inl ⟨h.1.1,by simp only [pt];omega,h.2.1,h.2.2⟩),h.1.1,by omega,h.2.1,h.2.2⟩
noncomputable def wHt (r:wAF) (l:List wAk):Int:=if code r=0 then (if l.all (wMK r)=true then (if ∃ y,wEy r y then 0 else 7) else 1) else code r
theorem err0 {r:wAF} {l:List wAk} (h:wHt r l=0):RC r/\code r=0/\l.all (wMK r)=true/\∃ y,wEy r y:=by
 unfold wHt at h
 split at h
 ·split at h
  ·split at h
   ·rename_i a b c
    exact ⟨wPr a,a,b,c⟩
   ·omega
  ·omega
 ·contradiction
theorem wNC {r:wAF} (S:wHU r):(code r ≠ 0/\wDs r=some (none,code r)) \/ (code r=0/\∃ d pts,wDs r=some (some d,0)/\Desk r d pts):=by
 unfold wDs
 rw [wNg S,nA]
 by_cases c:code r=0
 ·right
  obtain ⟨d,pts,e,D⟩:=wPp (wPr c)
  refine ⟨c,d,pts,?_,D⟩
  rw [if_pos c,e];rfl
 ·left
  exact ⟨c,if_neg c⟩
theorem wNh {l:List wAk} {f:wAk->Option Bool} {p:wAk->Bool} (hf:∀ a ∈ l,f a=some (p a)) (hn:l.length <= 1000):wBV l f=some (l.all p):=by
 unfold wBV
 refine (wHS (R:=Bool) (p:=p) (z:=false) (K:=fun _=>some true) (fun a ha=>?_) (by omega)).trans ?_
 ·rw [hf a ha,nA];split <;> rfl
 ·split <;> simp_all
section
variable {r:wAF} {d:wAx} {pts:List Pt} (D:Desk r d pts)
include D
theorem Desk.holds:∃ b,wCb d=some b/\(b=true ↔ ∃ y,wEy r y):=by
 obtain ⟨f,last,ok,e,_,_,h,_⟩:=D.any
 refine ⟨ok,?_,h⟩
 unfold wCb
 rw [e];rfl
end
theorem wRI {r:wAF} (S:wHU r) {l:List wAk} (hl:l.length <= 10):∃ o,wEn r l=some (o,wHt r l)/\(wHt r l=0->∃ d pts,o=some d/\Desk r d pts)/\(wHt r l ≠ 0->o=none):=by
 unfold wEn
 rcases wNC S with ⟨c,e⟩ | ⟨c,d,pts,e,D⟩
 ·have ee:wHt r l=code r:=by unfold wHt;rw [if_neg c]
  refine ⟨none,?_,fun h=>absurd (ee ▸ h) c,fun _=>rfl⟩
  rw [e,nA,ee]
  simp only
  rw [if_neg c]
 ·rw [e,nA]
  simp only
  rw [if_pos trivial,wNh (p:=wMK r) (fun s _=>wPs S s) (by omega),nA]
  by_cases c2:l.all (wMK r)=true
  ·rw [if_pos c2]
   obtain ⟨b,e3,h3⟩:=D.holds
   rw [e3,nA]
   by_cases c3:∃ y,wEy r y
   ·have ee:wHt r l=0:=by unfold wHt;rw [if_pos c,if_pos c2,if_pos c3]
    rw [if_pos (h3.2 c3),ee]
    exact ⟨_,rfl,fun _=>⟨d,pts,rfl,D⟩,fun h=>absurd rfl h⟩
   ·have ee:wHt r l=7:=by unfold wHt;rw [if_pos c,if_pos c2,if_neg c3]
    rw [if_neg (fun h=>c3 (h3.1 h)),ee]
    exact ⟨_,rfl,fun h=>by omega,fun _=>rfl⟩
  ·have ee:wHt r l=1:=by unfold wHt;rw [if_pos c,if_neg c2]
   rw [if_neg c2,ee]
   exact ⟨_,rfl,fun h=>by omega,fun _=>rfl⟩
theorem wJa {S:Type} {body:Nat->S->Option S} {n:Nat} {s0:S} (I:Nat->S->Prop) (hn:n <= 1000) (h0:I 0 s0) (h:∀ i s,i < n->I i s->∃ s',body i s=some s'/\I (i + 1) s'):∃ s,wBp 0 (n:Int) body s0=some s/\I n s:=by
 rw [wEX (by omega)]
 have:=wFa (body:=body) I n 0 s0 h0 fun i s _ h2 h3=>h i s (by omega) h3
 rwa [nm] at this
theorem wVx (a:Arr Int 64) {i j:Nat} (hi:i < 64) (v:Int):(a.set i v).get j=if j=i then v else a.get j:=by
 unfold Arr.set Arr.get
 simp only [kS]
 by_cases e:j=i
 ·rw [if_pos e,e,List.getElem?_set_self (by rw [a.h];exact hi)]
  rfl
 ·rw [if_neg e,List.getElem?_set_ne (Ne.symm e)]
def ahK (G:Nat->Nat->Int) (i k:Nat):List Int:=((nO k).filter fun j=>decide (G i j < 0)).map fun (j:Nat)=>(j:Int)
def beK (G:Nat->Nat->Int) (i k:Nat):Nat:=(nO k).countP fun j=>decide (0 < G j i)
theorem wIB (G:Nat->Nat->Int) (i k:Nat):ahK G i (k + 1)=if G i k < 0 then ahK G i k ++ [(k:Int)] else ahK G i k:=by
 unfold ahK
 rw [List.range_succ,List.filter_append,List.map_append]
 by_cases c:G i k < 0
 ·rw [if_pos c];simp [c]
 ·rw [if_neg c];simp [c]
theorem wND (G:Nat->Nat->Int) (i k:Nat):beK G i (k + 1)=if 0 < G k i then beK G i k + 1 else beK G i k:=by
 unfold beK
 rw [List.range_succ,List.countP_append]
 by_cases c:0 < G k i
 ·rw [if_pos c];simp [c]
 ·rw [if_neg c];simp [c]
theorem wKV (G:Nat->Nat->Int) (i:Nat):∀ k,(ahK G i k).length <= k
 | 0=>by simp [ahK]
 | k + 1=>by
  have:=wKV G i k
  rw [wIB]
  split
  ·rw [nI,nU];omega
  ·omega
theorem wSG (G:Nat->Nat->Int) (i:Nat):∀ k,beK G i k <= k
 | 0=>by simp [beK]
 | k + 1=>by
  have:=wSG G i k
  rw [wND]
  split <;> omega
def ahL (n:Nat) (G:Nat->Nat->Int):List (List Int):=(nO n).map fun i=>ahK G i n
def plL (n:Nat) (G:Nat->Nat->Int):List wAI:=(nO n).map fun i=>⟨1 + ((ahK G i n).length:Int),1 + (beK G i n:Int)⟩
theorem wKW {α:Type} [Inhabited α] {n k:Nat} (f:Nat->α) (h:k < n):gd ((nO n).map f) k=f k:=by
 rw [wGs (by simpa using h)]
 simp
section
variable {r:wAF} {d:wAx} {pts:List Pt} (D:Desk r d pts)
include D
theorem wIq (hy:∃ y,wEy r y) {m:Int} (m0:0 <= m) (m1:m <= r.Splits.length) {F:Nat->Pt->Int} (hF:∀ i,i < r.Starts.length->IsDP r ⟨(i:Int),m⟩ (F i)):∃ a,wBh d m=some a/\∀ i j,i < r.Starts.length->j < r.Starts.length->a.get (i * 8 + j)=F i ⟨(j:Int),m⟩:=by
 have hn:=D.c.n
 have ok:∀ i,i < r.Starts.length->wKT r ⟨(i:Int),m⟩:=fun i hi=>.inr (.inl ⟨by simp only;omega,by simp only;omega,m0,m1⟩)
 unfold wBh
 rw [D.race]
 obtain ⟨a,e,I⟩:=wJa (n:=r.Starts.length) (body:=fun k19 a18 =>
  (wBN d (wBU d.number (⟨(↑k19:Int),m⟩:wAJ) 0) false).bind fun (x47,x48,x49) =>
  (wBp 0 (↑r.Starts.length:Int) (fun k79 a78 =>
   (chk (wBU d.number (⟨(↑k79:Int),m⟩:wAJ) 0) x47.far.length).bind fun _ =>
   (chk (↑k19:Int) 8).bind fun _ =>
   (chk (↑k79:Int) 8).bind fun _ =>
   some (a78.set (k19 * 8 + k79) (gd x47.far (wBU d.number (⟨(↑k79:Int),m⟩:wAJ) 0).toNat))) a18).bind fun y84 =>
  some y84) (s0:=(Arr.fill 64 0)) (fun k (a:Arr Int 64)=>∀ i j,i < k->j < r.Starts.length->a.get (i * 8 + j)=F i ⟨(j:Int),m⟩) (by omega) (fun i j h=>by omega) fun k a hk I=>by
  obtain ⟨f,last,e1,fl,Q⟩:=D.from_ hy (ok k hk)
  obtain ⟨b,e2,J⟩:=wJa (n:=r.Starts.length) (body:=fun k79 a78 =>
   (chk (wBU d.number (⟨(↑k79:Int),m⟩:wAJ) 0) f.far.length).bind fun _ =>
   (chk (↑k:Int) 8).bind fun _ =>
   (chk (↑k79:Int) 8).bind fun _ =>
   some (a78.set (k * 8 + k79) (gd f.far (wBU d.number (⟨(↑k79:Int),m⟩:wAJ) 0).toNat))) (s0:=a) (fun l (a:Arr Int 64)=>(∀ i j,i < k->j < r.Starts.length->a.get (i * 8 + j)=F i ⟨(j:Int),m⟩)/\∀ j,j < l->a.get (k * 8 + j)=F k ⟨(j:Int),m⟩) (by omega) ⟨I,fun j h=>by omega⟩ fun l a hl J=>by
   obtain ⟨h1,_,h3⟩:=D.pos_ok (ok l hl)
   refine ⟨a.set (k * 8 + l) (F k ⟨(l:Int),m⟩),?_,?_⟩
   ·rw [h3,wCK (by omega) (by omega),nA,wCK (by omega) (by omega),nA,wCK (by omega) (by omega),nA,nR,(hF k hk).one Q (ok l hl)]
   ·refine ⟨fun i j hi hj=>?_,fun j hj=>?_⟩
    ·rw [wVx _ (by omega),if_neg (by omega),J.1 i j hi hj]
    ·rw [wVx _ (by omega)]
     by_cases c:j=l
     ·subst c
      rw [if_pos rfl]
     ·rw [if_neg (by omega),J.2 j (by omega)]
  refine ⟨b,?_,fun i j hi hj=>?_⟩
  ·rw [(D.pos_ok (ok k hk)).2.2,e1,nA]
   simp only
   rw [e2];rfl
  ·by_cases c:i=k
   ·subst c;exact J.2 j hj
   ·exact J.1 i j (by omega) hj
 exact ⟨a,by rw [e];rfl,I⟩
end
theorem wLT {r:wAF} (S:wHU r) (m:Int):∃ o,wDS r m=some (o,wHt r [⟨0,m⟩])/\(wHt r [⟨0,m⟩]=0->∃ d pts,o=some d/\Desk r d pts)/\(wHt r [⟨0,m⟩] ≠ 0->o=none):=by
 obtain ⟨o,e,h⟩:=wRI S (l:=[⟨0,m⟩]) (by simp)
 refine ⟨o,?_,h⟩
 unfold wDS
 rw [e,nA]
 cases o <;> rfl
theorem wSH {r:wAF} {m:Int} (h:wHt r [⟨0,m⟩]=0):RC r/\0 <= m/\m <= r.Splits.length/\∃ y,wEy r y:=by
 obtain ⟨C,_,hs,hy⟩:=err0 h
 simp only [kG,List.all_nil,ko] at hs
 have:=wTy hs
 exact ⟨C,this.2.2.2.1,this.2.2.2.2,hy⟩
theorem wPt {r:wAF} (S:wHU r) (m:Int):(wHt r [⟨0,m⟩] ≠ 0->wCp r m=some ([],wHt r [⟨0,m⟩]))/\(wHt r [⟨0,m⟩]=0->∀ F:Nat->Pt->Int,(∀ i,i < r.Starts.length->IsDP r ⟨(i:Int),m⟩ (F i))->wCp r m=some (plL r.Starts.length (fun i j=>F i ⟨(j:Int),m⟩),0)):=by
 unfold wCp
 obtain ⟨o,e,h0,h1⟩:=wLT S m
 rw [e,nA]
 simp only
 constructor
 ·intro c
  have ho:=h1 c
  subst ho
  simp only
  rw [if_neg c]
 ·intro c F hF
  obtain ⟨d,pts,rfl,D⟩:=h0 c
  obtain ⟨C,m0,m1,hy⟩:=wSH c
  obtain ⟨a,e1,ha⟩:=wIq D hy m0 m1 hF
  have hn:=C.n
  simp only
  rw [if_pos c,e1,nA,wCk (S:=List wAI) (n:=r.Starts.length) (fun k=>(plL r.Starts.length fun i j=>F i ⟨(j:Int),m⟩).take k) (s0:=[]) (by simp) (by omega) fun k hk=>?_]
  ·rw [nA,show (plL r.Starts.length fun i j=>F i ⟨(j:Int),m⟩).take r.Starts.length=plL r.Starts.length fun i j=>F i ⟨(j:Int),m⟩ from List.take_of_length_le (by simp [plL])]
  ·rw [wCk (S:=Int × Int) (n:=r.Starts.length) (fun j=>(1 + ((ahK (fun i j=>F i ⟨(j:Int),m⟩) k j).length:Int),1 + (beK (fun i j=>F i ⟨(j:Int),m⟩) k j:Int))) (s0:=(1,1)) (by simp [ahK,beK]) (by omega) fun j hj=>?_]
   ·have pl:(plL r.Starts.length fun i j=>F i ⟨(j:Int),m⟩).length=r.Starts.length:=by simp [plL]
    rw [nA]
    simp only
    rw [wER (by rw [nN];simp only [nY,kb];omega),nA,wFV (by rw [pl];exact hk)]
    unfold plL
    rw [wKW _ hk]
   ·have l1:=wKV (fun i j=>F i ⟨(j:Int),m⟩) k j
    have l2:=wSG (fun i j=>F i ⟨(j:Int),m⟩) k j
    simp only
    rw [wCK (by omega) (by omega),nA,wCK (by omega) (by omega),nA,ha k j hk hj,ha j k hj hk,wAX (by omega) (by omega),wAX (by omega) (by omega),wIB,wND]
    by_cases c1:F k ⟨(j:Int),m⟩ < 0
    ·rw [if_pos c1,if_pos c1]
     by_cases c2:0 < F j ⟨(k:Int),m⟩
     ·rw [if_pos c2,if_pos c2,nI,nU]
      congr 2 <;> omega
     ·rw [if_neg c2,if_neg c2,nI,nU]
      congr 2
    ·rw [if_neg c1,if_neg c1]
     by_cases c2:0 < F j ⟨(k:Int),m⟩
     ·rw [if_pos c2,if_pos c2]
      congr 2
     ·rw [if_neg c2,if_neg c2]
def ahS (n:Nat) (G:Nat->Nat->Int) (k l:Nat):List (List Int):=(nO n).map fun i=>if i < k then ahK G i n else if i=k then ahK G i l else []
theorem wGu (n:Nat) (G:Nat->Nat->Int) (k l:Nat):(ahS n G k l).length=n:=by simp [ahS]
theorem wRJ {r:wAF} (S:wHU r) (m:Int):(wHt r [⟨0,m⟩] ≠ 0->wDJ r m=some ([],wHt r [⟨0,m⟩]))/\(wHt r [⟨0,m⟩]=0->∀ F:Nat->Pt->Int,(∀ i,i < r.Starts.length->IsDP r ⟨(i:Int),m⟩ (F i))->wDJ r m=some (ahL r.Starts.length (fun i j=>F i ⟨(j:Int),m⟩),0)):=by
 unfold wDJ
 obtain ⟨o,e,h0,h1⟩:=wLT S m
 rw [e,nA]
 simp only
 constructor
 ·intro c
  have ho:=h1 c
  subst ho
  simp only
  rw [if_neg c]
 ·intro c F hF
  obtain ⟨d,pts,rfl,D⟩:=h0 c
  obtain ⟨C,m0,m1,hy⟩:=wSH c
  obtain ⟨a,e1,ha⟩:=wIq D hy m0 m1 hF
  have hn:=C.n
  have mk:mkz 24 (↑r.Starts.length:Int) ([]:List Int)=some (nJ r.Starts.length []):=by
   unfold mkz
   rw [if_pos (by omega),nR]
  simp only
  rw [if_pos c,e1,nA,mk,nA,List.length_replicate,wCk (S:=List (List Int)) (n:=r.Starts.length) (fun k=>ahS r.Starts.length (fun i j=>F i ⟨(j:Int),m⟩) k 0) (s0:=nJ r.Starts.length []) ?_ (by omega) fun k hk=>?_]
  ·rw [nA]
   congr 2
   unfold ahS ahL
   exact nz fun i hi=>if_pos (kQ.1 hi)
  ·unfold ahS
   refine wPi (by simp) fun i hi=>?_
   rw [ka,aC] at hi
   rw [wKW _ hi,if_neg (by omega),wGs (by simpa using hi)]
   simp [ahK]
  ·rw [wGu,wCk (S:=List (List Int)) (n:=r.Starts.length) (fun j=>ahS r.Starts.length (fun i j=>F i ⟨(j:Int),m⟩) k j) (s0:=ahS r.Starts.length (fun i j=>F i ⟨(j:Int),m⟩) k 0) rfl (by omega) fun j hj=>?_]
   ·rw [nA]
    congr 1
    unfold ahS
    refine nz fun i hi=>?_
    by_cases c1:i < k
    ·rw [if_pos c1,if_pos (by omega)]
    ·rw [if_neg c1]
     by_cases c2:i=k
     ·rw [if_pos c2,if_pos (by omega)]
     ·rw [if_neg c2,if_neg (by omega)]
      split
      ·rfl
      ·rfl
   ·have gk:gd (ahS r.Starts.length (fun i j=>F i ⟨(j:Int),m⟩) k j) k=ahK (fun i j=>F i ⟨(j:Int),m⟩) k j:=by
     unfold ahS
     rw [wKW _ hk,if_neg (by omega),if_pos rfl]
    have l1:=wKV (fun i j=>F i ⟨(j:Int),m⟩) k j
    rw [wCK (by omega) (by omega),nA,wCK (by omega) (by omega),nA,ha k j hk hj]
    by_cases c1:F k ⟨(j:Int),m⟩ < 0
    ·rw [if_pos c1,wCK (by omega) (by rw [wGu];omega),nA,gk,wER (by simp only [nY,kb];omega),nA]
     congr 1
     refine wPi (by rw [kZ,wGu,wGu]) fun i hi=>?_
     rw [kZ,wGu] at hi
     rw [wPk (by rw [wGu];exact hk) (by rw [wGu];exact hi)]
     unfold ahS
     rw [wKW _ hi,wKW _ hi]
     by_cases c2:i=k
     ·rw [if_pos c2,if_neg (by omega),if_pos c2,c2,wIB,if_pos c1]
     ·rw [if_neg c2,if_neg c2,if_neg c2]
    ·rw [if_neg c1]
     congr 1
     unfold ahS
     refine nz fun i _=>?_
     by_cases c2:i=k
     ·rw [c2,wIB,if_neg c1]
     ·rw [if_neg c2,if_neg c2]
theorem wPu {r:wAF} (C:RC r):code r=0:=by
 unfold code
 rw [if_neg (fun h=>h C.n),if_neg (by have:=C.m;omega),if_neg (by have:=C.c;omega),if_neg (by have:=C.q;omega),if_pos (nH.2 fun s hs=>by
  have:=C.st s hs
  unfold stP inB
  rw [decide_eq_true_eq];omega),if_pos (nH.2 fun s hs=>by
  have:=C.sp s hs
  unfold spP wRH
  rw [decide_eq_true_eq];omega),if_pos (nH.2 fun s hs=>by
  have:=C.ck s hs
  unfold ckP wRH inB
  rw [nB,decide_eq_true_eq,decide_eq_true_eq];omega),if_pos (nH.2 fun s hs=>by
  have:=C.rt s hs
  unfold rtP inB
  rw [decide_eq_true_eq];omega),if_pos (nH.2 fun s hs=>by
  have:=C.ru s hs
  unfold ruP inB
  rw [nB,nB,decide_eq_true_eq,decide_eq_true_eq,decide_eq_true_eq];omega)]
structure F4 (r:wAF) (y:Pt->Int):Prop where
 a:∀ s:Nat,s < r.Starts.length->y ⟨(s:Int),0⟩=y zp + gd r.Starts s
 b:∀ s k:Nat,s < r.Starts.length->k < r.Splits.length->(gd r.Splits k).Lo <= y ⟨(s:Int),(k:Int) + 1⟩ - y ⟨(s:Int),(k:Int)⟩/\y ⟨(s:Int),(k:Int) + 1⟩ - y ⟨(s:Int),(k:Int)⟩ <= (gd r.Splits k).Hi
 c:∀ k:Nat,k < r.Clocks.length->y ⟨-1,1 + (k:Int)⟩ <= y zp - (gd r.Clocks k).Offset.Lo/\y zp <= y ⟨-1,1 + (k:Int)⟩ + (gd r.Clocks k).Offset.Hi
 d:∀ x ∈ r.Readings,y ⟨x.Skier,x.Mat⟩ <= y ⟨-1,1 + x.Clock⟩ + (x.Time + (gd r.Clocks x.Clock.toNat).Error)/\y ⟨-1,1 + x.Clock⟩ <= y ⟨x.Skier,x.Mat⟩ + ((gd r.Clocks x.Clock.toNat).Error - x.Time)
theorem wVy {r:wAF} {y:Pt->Int}:wEy r y ↔ F4 r y:=by
 constructor
 ·intro F
  refine ⟨fun s hs=>?_,fun s k hs hk=>?_,fun k hk=>?_,fun x hx=>?_⟩
  ·have h:=fp0 F (s:=(s:Int)) (by omega) (by omega)
   rwa [nR] at h
  ·have h:=fp1 F (s:=(s:Int)) (k:=(k:Int)) (by omega) (by omega) (by omega) (by omega)
   rw [nR] at h
   omega
  ·have h:=fp2 F (k:=(k:Int)) (by omega) (by omega)
   rwa [nR] at h
  ·obtain ⟨k,hk,rfl⟩:=wMx hx
   have a:y ⟨(gd r.Readings k).Skier,(gd r.Readings k).Mat⟩ <= y ⟨-1,1 + (gd r.Readings k).Clock⟩ + ((gd r.Readings k).Time + (gd r.Clocks (gd r.Readings k).Clock.toNat).Error):=F ⟨3,0,(k:Int),true⟩ (.inr (.inr (.inr ⟨rfl,rfl,by simp only;omega,by simp only;omega⟩)))
   have b:y ⟨-1,1 + (gd r.Readings k).Clock⟩ <= y ⟨(gd r.Readings k).Skier,(gd r.Readings k).Mat⟩ + ((gd r.Clocks (gd r.Readings k).Clock.toNat).Error - (gd r.Readings k).Time):=F ⟨3,0,(k:Int),false⟩ (.inr (.inr (.inr ⟨rfl,rfl,by simp only;omega,by simp only;omega⟩)))
   exact ⟨a,b⟩
 ·rintro ⟨h1,h2,h3,h4⟩ x hx
  have key:y (wDn r x).2.1 <= y (wDn r x).1 + (wDn r x).2.2.1/\y (wDn r x).1 <= y (wDn r x).2.1 + (wDn r x).2.2.2:=by
   unfold wDn
   rcases hx with ⟨k,a,b,c⟩ | ⟨k,a,b,c,d⟩ | ⟨k,a,c,d⟩ | ⟨k,a,c,d⟩
   ·have h:=h1 x.Skier.toNat (by omega)
    rw [nQ a] at h
    rw [if_pos k]
    simp only
    omega
   ·have h:=h2 x.Skier.toNat x.Index.toNat (by omega) (by omega)
    rw [nQ a,nQ c] at h
    rw [if_neg (by omega),if_pos k]
    simp only
    omega
   ·have h:=h3 x.Index.toNat (by omega)
    rw [nQ c] at h
    rw [if_neg (by omega),if_neg (by omega),if_pos k]
    simp only
    omega
   ·have h:=h4 _ (wDQ c d)
    rw [if_neg (by omega),if_neg (by omega),if_neg (by omega)]
    simp only
    omega
  unfold wEP
  split
  ·exact key.1
  ·exact key.2
def yT (T:List (List Int)) (O:List Int) (p:Pt):Int:=if p.skier=-1 then (if p.mat=0 then 0 else -gd O (p.mat - 1).toNat) else gd (gd T p.skier.toNat) p.mat.toNat
theorem wPv (T:List (List Int)) (O:List Int):yT T O zp=0:=rfl
theorem wFl (T:List (List Int)) (O:List Int) {s k:Int} (h:0 <= s):yT T O ⟨s,k⟩=gd (gd T s.toNat) k.toNat:=if_neg (by simp only;omega)
theorem wIC (T:List (List Int)) (O:List Int) {k:Int} (h:0 <= k):yT T O ⟨-1,1 + k⟩=-gd O k.toNat:=by
 unfold yT
 rw [if_pos rfl,if_neg (by simp only;omega),show (1 + k - 1)=k by omega]
structure Lens (r:wAF) (T:List (List Int)) (O:List Int):Prop where
 t:T.length=r.Starts.length
 l:∀ k,k < r.Starts.length->(gd T k).length=r.Splits.length + 1
 o:O.length=r.Clocks.length
def wVz (r:wAF) (T:List (List Int)) (k:Nat):Bool:=decide (gd (gd T k) 0=gd r.Starts k) && wTu (fun j=>inB (gd (gd T k) (j + 1) - gd (gd T k) j) (gd r.Splits j).Lo (gd r.Splits j).Hi) r.Splits.length 0
def clkS (r:wAF) (O:List Int) (k:Nat):Bool:=inB (gd O k) (gd r.Clocks k).Offset.Lo (gd r.Clocks k).Offset.Hi
def redS (r:wAF) (T:List (List Int)) (O:List Int) (k:Nat):Bool :=
 inB ((gd r.Readings k).Time - gd (gd T (gd r.Readings k).Skier.toNat) (gd r.Readings k).Mat.toNat - gd O (gd r.Readings k).Clock.toNat) (-(gd r.Clocks (gd r.Readings k).Clock.toNat).Error) (gd r.Clocks (gd r.Readings k).Clock.toNat).Error
theorem wRK {r:wAF} (C:RC r) {T:List (List Int)} {O:List Int}:wEy r (yT T O) ↔ wTu (wVz r T) r.Starts.length 0=true/\wTu (clkS r O) r.Clocks.length 0=true/\wTu (redS r T O) r.Readings.length 0=true:=by
 simp only [wFT]
 constructor
 ·intro F
  refine ⟨fun k _ hk=>?_,fun k _ hk=>?_,fun k _ hk=>?_⟩
  ·have h0:=fp0 F (s:=(k:Int)) (by omega) (by omega)
   rw [wFl _ _ (by omega),wPv,nR,Int.zero_add] at h0
   unfold wVz
   rw [nB]
   refine ⟨decide_eq_true h0,(wFT _ _ _).2 fun j _ hj=>?_⟩
   have h1:=fp1 F (s:=(k:Int)) (k:=(j:Int)) (by omega) (by omega) (by omega) (by omega)
   rw [wFl _ _ (by omega),wFl _ _ (by omega),nR,nR,show ((j:Int) + 1).toNat=j + 1 by omega] at h1
   unfold inB
   rw [decide_eq_true_eq]
   omega
  ·have h:=fp2 F (k:=(k:Int)) (by omega) (by omega)
   rw [wIC _ _ (by omega),wPv,nR] at h
   unfold clkS inB
   rw [decide_eq_true_eq]
   omega
  ·have u:=C.ru _ (wCW (show k < r.Readings.length by omega))
   have a:yT T O ⟨(gd r.Readings k).Skier,(gd r.Readings k).Mat⟩ <= yT T O ⟨-1,1 + (gd r.Readings k).Clock⟩ + ((gd r.Readings k).Time + (gd r.Clocks (gd r.Readings k).Clock.toNat).Error):=F ⟨3,0,(k:Int),true⟩ (.inr (.inr (.inr ⟨rfl,rfl,by simp only;omega,by simp only;omega⟩)))
   have b:yT T O ⟨-1,1 + (gd r.Readings k).Clock⟩ <= yT T O ⟨(gd r.Readings k).Skier,(gd r.Readings k).Mat⟩ + ((gd r.Clocks (gd r.Readings k).Clock.toNat).Error - (gd r.Readings k).Time):=F ⟨3,0,(k:Int),false⟩ (.inr (.inr (.inr ⟨rfl,rfl,by simp only;omega,by simp only;omega⟩)))
   rw [wFl _ _ u.1,wIC _ _ u.2.2.2.2.1] at a b
   unfold redS inB
   rw [decide_eq_true_eq]
   omega
 ·rintro ⟨h1,h2,h3⟩ x hx
  have key:yT T O (wDn r x).2.1 <= yT T O (wDn r x).1 + (wDn r x).2.2.1/\yT T O (wDn r x).1 <= yT T O (wDn r x).2.1 + (wDn r x).2.2.2:=by
   unfold wDn
   rcases hx with ⟨k,a,b,c⟩ | ⟨k,a,b,c,d⟩ | ⟨k,a,c,d⟩ | ⟨k,a,c,d⟩
   ·have h:=h1 x.Skier.toNat (by omega) (by omega)
    unfold wVz at h
    rw [nB,decide_eq_true_eq] at h
    rw [if_pos k]
    simp only
    rw [wFl _ _ a,wPv,Int.toNat_zero,h.1]
    omega
   ·have h:=h1 x.Skier.toNat (by omega) (by omega)
    unfold wVz at h
    rw [nB] at h
    have g:=(wFT _ _ _).1 h.2 x.Index.toNat (by omega) (by omega)
    unfold inB at g
    rw [decide_eq_true_eq] at g
    rw [if_neg (by omega),if_pos k]
    simp only
    rw [wFl _ _ a,wFl _ _ a,show (x.Index + 1).toNat=x.Index.toNat + 1 by omega]
    omega
   ·have h:=h2 x.Index.toNat (by omega) (by omega)
    unfold clkS inB at h
    rw [decide_eq_true_eq] at h
    rw [if_neg (by omega),if_neg (by omega),if_pos k]
    simp only
    rw [wIC _ _ c,wPv]
    omega
   ·have h:=h3 x.Index.toNat (by omega) (by omega)
    unfold redS inB at h
    rw [decide_eq_true_eq] at h
    have u:=C.ru _ (wDQ c d)
    rw [if_neg (by omega),if_neg (by omega),if_neg (by omega)]
    simp only
    rw [wFl _ _ u.1,wIC _ _ u.2.2.2.2.1]
    omega
  unfold wEP
  split
  ·exact key.1
  ·exact key.2
open Go.KL
theorem wPw {a b:Int} (h0:0 <= a) (hb:0 < b):∃ x,rem a b=some x/\0 <= x/\x < b:=by
 refine ⟨a.tmod b,if_neg (by omega),?_,?_⟩
 ·rw [kU h0];exact Int.emod_nonneg _ (by omega)
 ·rw [kU h0];exact Int.emod_lt_of_pos _ hb
theorem wML (x:Int):0 <= wFv x:=by unfold wFv;omega
theorem wTz (x:Int):wFv x < 4294967296:=by unfold wFv;omega
theorem w64u (x:Int):w64 (wFv x)=wFv x:=by
 have:=wML x
 have:=wTz x
 exact wAX (by omega) (by omega)
theorem wRL (a:Int) {b:Int} (hb:b ≠ 0):∃ x,quo a b=some x:=⟨_,if_neg hb⟩
theorem wFL (d:wAE) (n:Int) (h0:0 <= d.next) (h1:d.next <= 1000000):∃ x d',wAR d n=some (x,d')/\0 <= d'.next/\d'.next <= d.next + 1/\0 <= x/\(x < n \/ (n <= 1/\x=0)):=by
 unfold wAR
 by_cases hn:n <= 1
 ·exact ⟨0,d,by rw [if_pos hn],h0,by omega,by omega,.inr ⟨hn,rfl⟩⟩
 rw [if_neg hn]
 by_cases hl:(d.bytes.length:Int)=0
 ·exact ⟨0,d,by rw [if_pos hl],h0,by omega,by omega,.inl (by omega)⟩
 rw [if_neg hl]
 obtain ⟨r,e1,r0,r1⟩:=wPw h0 (show (0:Int) < d.bytes.length by omega)
 obtain ⟨b,e2⟩:∃ b,idx d.bytes r=some b:=by
  unfold idx
  rw [if_pos r0,nS (by omega)]
  exact ⟨_,rfl⟩
 obtain ⟨q,e3⟩:=wRL d.next (b:=d.bytes.length) hl
 obtain ⟨st,e4,_,_⟩:=wPw (wML ((wFv ((wFv ((wFv (d.state * 45)) + (wFv b))) + (wFv (77 * (wFv q))))) + 1)) (b:=65519) (by decide)
 rw [e1,nA,e2,nA,e3,nA,e4,nA,wAX (x:=d.next + 1) (by omega) (by omega)]
 have fin:∀ z:Int,∃ x d',((rem (w64 (wFv z)) n).bind fun x=>some (x,(⟨d.bytes,d.next + 1,st⟩:wAE)))=some (x,d')/\0 <= d'.next/\d'.next <= d.next + 1/\0 <= x/\(x < n \/ (n <= 1/\x=0)):=by
  intro z
  obtain ⟨x,e5,x0,x1⟩:=wPw (a:=w64 (wFv z)) (b:=n) (by rw [w64u];exact wML z) (by omega)
  exact ⟨x,_,by rw [e5];rfl,by show 0 <= d.next + 1;omega,by show d.next + 1 <= _;omega,x0,.inl x1⟩
 by_cases c1:wFv q=0
 ·rw [if_pos c1]
  by_cases c2:n <= 256
  ·rw [if_pos c2];exact fin _
  ·rw [if_neg c2];exact fin _
 ·rw [if_neg c1];exact fin _
theorem wGv (d:wAE) (a b:Int) (h0:0 <= d.next) (h1:d.next <= 1000000) (ha:-1000000 <= a) (hab:a <= b) (hb:b <= 1000000):∃ x d',wAS d a b=some (x,d')/\0 <= d'.next/\d'.next <= d.next + 1/\a <= x/\x <= b:=by
 unfold wAS
 rw [wAX (x:=b - a) (by omega) (by omega),wAX (x:=b - a + 1) (by omega) (by omega)]
 obtain ⟨x,d',e,n0,n1,x0,x1⟩:=wFL d (b - a + 1) h0 h1
 refine ⟨a + x,d',?_,n0,n1,by omega,by omega⟩
 rw [e,nA]
 simp only
 rw [wAX (by omega) (by omega)]
end Go.Proofs.YtadbejldcmkokaaGreat
