import Derived.Test.YtlnfbjphfoipaaaGreatU1
set_option linter.all false
open Option renaming bind_some->hD
open List renaming length_nil->hH,length_cons->nA,length_map->nB,length_append->nD,append_assoc->nI
open Classical renaming axiomOfChoice->nE
open Nat renaming mul_le_mul->nH
namespace Go.Proofs.YtlnfbjphfoipaaaGreat
open Go.KL Go.KL.Net Go.KL.Floyd
open Classical
def wJN (l:List wAJ) (s m:Int):Bool:=l.any fun x=>decide ((⟨x.Skier,x.Mat⟩:wAL)=⟨s,m⟩)
def msR (r:wAA) (s k:Nat):List wAL:=((List.range k).filter fun j=>!wJN r.Readings (s:Int) ((j + 1:Nat):Int)).map fun (j:Nat)=>⟨(s:Int),((j + 1:Nat):Int)⟩
theorem wOw (r:wAA) (s k:Nat):msR r s (k + 1)=if wJN r.Readings (s:Int) ((k + 1:Nat):Int)=true then msR r s k else msR r s k ++ [⟨(s:Int),((k + 1:Nat):Int)⟩]:=by
 unfold msR
 rw [List.range_succ,List.filter_append,List.map_append]
 by_cases h:wJN r.Readings (s:Int) ((k + 1:Nat):Int)=true
 ·rw [if_pos h,List.filter_cons_of_neg (p:=fun (j:Nat)=>!wJN r.Readings (s:Int) ((j + 1:Nat):Int)) (show ¬ (!wJN r.Readings (s:Int) ((k + 1:Nat):Int))=true by rw [h];simp),List.filter_nil,List.map_nil,List.append_nil]
 ·rw [if_neg h,List.filter_cons_of_pos (p:=fun (j:Nat)=>!wJN r.Readings (s:Int) ((j + 1:Nat):Int)) (show (!wJN r.Readings (s:Int) ((k + 1:Nat):Int))=true by rw [Bool.not_eq_true] at h;rw [h];rfl),List.filter_nil];rfl
theorem wJw (r:wAA) (s k:Nat):(msR r s k).length <= k:=by
 unfold msR
 rw [nB]
 have:=List.length_filter_le (fun j=>!wJN r.Readings (s:Int) ((j + 1:Nat):Int)) (List.range k)
 rwa [List.length_range] at this
def msA (r:wAA):Nat->List wAL
 | 0=>[]
 | s + 1=>msA r s ++ msR r s r.Splits.length
theorem wIe (r:wAA):∀ s,(msA r s).length <= s * r.Splits.length
 | 0=>Nat.zero_le _
 | s + 1=>by
  have:=wIe r s
  have:=wJw r s r.Splits.length
  rw [msA,nD,Nat.succ_mul];omega
theorem wLs {l:List wAJ} {s m:Int} (hl:l.length <= 1000):wAc l (fun x=>wCJ x s m)=some (wJN l s m):=by
 unfold wAc wAi wJN
 refine (congrArg (fun o=>Option.bind o fun x1:Int=>some (decide (0 <= x1))) (wKl (f:=fun x=>wCJ x s m) (p:=fun x=>decide ((⟨x.Skier,x.Mat⟩:wAL)=⟨s,m⟩)) (fun a _=>rfl) (by omega) (fun x:Int=>x))).trans ?_
 exact congrArg some (wIz _ l 0)
theorem wKs {r:wAA} (S:wCa r):wDH r=some (if code r=0 then msA r r.Starts.length else [],code r):=by
 have hn:=S.n;have hm:=S.m;have hq:=S.q
 unfold wDH
 rw [wIG S,hD]
 by_cases c:code r=0
 ·rw [if_pos c,if_pos c,wHT (S:=List wAL) (n:=r.Starts.length) (fun s=>msA r s) (s0:=[]) rfl (by omega) fun s hs=>?_]
  ·rw [c];rfl
  ·refine wFR (m:=r.Splits.length) (fun i=>(msA r s ++ msR r s i,((i + 1:Nat):Int))) (fun i hi=>?_) ?_ (by simp [msR]) (by omega)
   ·have h1:=wIe r s
    have h2:=wJw r s i
    have h3:s * r.Splits.length <= 10 * 9:=nH (by omega) hm
    dsimp only
    rw [if_pos (by omega),wLs (by omega),hD,wAY (by omega) (by omega),wOw]
    by_cases h:wJN r.Readings (s:Int) ((i + 1:Nat):Int)=true
    ·rw [if_pos h,if_pos h];rfl
    ·rw [if_neg h,if_neg h,wEH (by simp only [nD,nA,hH];omega),hD,nI];rfl
   ·dsimp only
    rw [if_neg (by omega)];rfl
 ·rw [if_neg c,if_neg c]
theorem wJx {r:wAA} (S:wCa r):wBr (cv r)=some (if code r=0 then (msA r r.Starts.length).map sp6 else [],code r):=by
 have hn:=S.n;have hm:=S.m;have hq:=S.q
 unfold wBr
 rw [wEc S,hD]
 by_cases c:code r=0
 ·rw [if_pos c,if_pos c,c,show (cv r).Starts=r.Starts from rfl,show (cv r).Splits=r.Splits from rfl,wFl]
  refine wFR (m:=r.Starts.length) (fun s=>((msA r s).map sp6,(s:Int))) (fun s hs=>?_) ?_ rfl (by omega)
  ·have h1:=wIe r s
   have h3:s * r.Splits.length <= 10 * 9:=nH (by omega) hm
   dsimp only
   rw [if_pos (by omega)]
   refine wFR (m:=r.Splits.length) (fun i=>((msA r s ++ msR r s i).map sp6,((i + 1:Nat):Int))) (fun i hi=>?_) ?_ (by simp [msR]) (by omega)
   ·have h2:=wJw r s i
    dsimp only
    rw [if_pos (by omega),wAY (by omega) (by omega)]
    refine wFR (m:=r.Readings.length) (fun k=>(wJN (r.Readings.take k) (s:Int) ((i + 1:Nat):Int),(k:Int))) (fun k hk=>?_) ?_ rfl (by omega)
    ·have e:wJN (r.Readings.take (k + 1)) (s:Int) ((i + 1:Nat):Int)=(wJN (r.Readings.take k) (s:Int) ((i + 1:Nat):Int) || decide ((⟨(gd r.Readings k).Skier,(gd r.Readings k).Mat⟩:wAL)=⟨(s:Int),((i + 1:Nat):Int)⟩)):=by
      unfold wJN
      rw [wHU hk,List.any_append,List.any_cons,List.any_nil,Bool.or_false]
     dsimp only
     rw [if_pos (by omega),wLp hk,hD,wAY (by omega) (by omega),e]
     cases wJN (r.Readings.take k) (s:Int) ((i + 1:Nat):Int) with
     | true=>rw [if_pos rfl,Bool.true_or];rfl
     | false =>
      rw [if_neg (by simp),Bool.false_or]
      by_cases h:(gd r.Readings k).Skier=(s:Int)
      ·rw [if_pos (show (rd6 (gd r.Readings k)).Skier=(s:Int) from h)]
       refine congrArg some (congrArg Sum.inl (Prod.ext ?_ (by simp)))
       exact decide_eq_decide.2 ⟨fun h2=>by rw [h];exact congrArg (wAL.mk _) h2,fun h2=>(wAL.mk.inj h2).2⟩
      ·rw [if_neg (show ¬ (rd6 (gd r.Readings k)).Skier=(s:Int) from h)]
       refine congrArg some (congrArg Sum.inl (Prod.ext ?_ (by simp)))
       exact (decide_eq_false fun h2=>h (wAL.mk.inj h2).1).symm
    ·dsimp only
     rw [if_neg (by omega),List.take_length,wOw]
     by_cases h:wJN r.Readings (s:Int) ((i + 1:Nat):Int)=true
     ·rw [if_pos h,if_pos h];rfl
     ·rw [if_neg h,if_neg h,wEH (by simp only [nD,nB,nA,hH];omega),hD,<- nI,List.map_append (l₂:=[_])];rfl
   ·dsimp only
    rw [if_neg (by omega),wAY (by omega) (by omega)];rfl
  ·dsimp only
   rw [if_neg (by omega)];rfl
 ·rw [if_neg c,if_neg c]
theorem wJO {r:wAA} (S:wCa r) {s:wAL} (c:wFZ r [s]=0) {f g:Pt->Int} (hf:IsDP r zp f) (hg:IsDP r (pt s) g):wBP (cv r) (sp6 s)=some (⟨-g zp,f (pt s)⟩,0):=by
 unfold wBP
 obtain ⟨C,_,hs,hy⟩:=wNz c
 obtain ⟨hp,s0,s1,m0,m1⟩:=wJu (r:=r) (s:=s) (by simpa using hs)
 obtain ⟨T,eT,hT⟩:=wKZ C
 have hz:wEv r zp:=.inl rfl
 have gn:=hg.near C hp hz
 have e1:=(hT.isDP C hy hz).one hf hp
 have e2:=(hT.isDP C hy hp).one hg hz
 rw [wJM S,hD,wKU,if_pos c,eT,hD,show (sp6 s).Skier=s.Skier from rfl,show (sp6 s).Mat=s.Mat from rfl,wGV C s0 s1 m0 m1,hD]
 have t1:=wLo hT hp hz (α:=wAN × Int) fun x82=>(idx T (0:Int)).bind fun x89=>(idx x89 (plc r (pt s):Int)).bind fun x101=>some ((⟨w64 (-x82),x101⟩:wAN),0)
 have t2:=wLo hT hz hp (α:=wAN × Int) fun x101=>some ((⟨w64 (-mx T (plc r (pt s)) (plc r zp)),x101⟩:wAN),0)
 refine (t1.trans t2).trans ?_
 rw [e1,e2,wAY (by omega) (by omega)]
theorem wMt {r:wAA} {s:wAL} (c:wFZ r [s]=0) (k:Nat):wFZ (lsR r k) [s]=0:=by
 obtain ⟨C,_,hs,hy⟩:=wNz c
 have C':=wMs C fun i=>decide (k=i)
 unfold wFZ
 rw [if_pos (wNf C':code (lsR r k)=0),if_pos (by
  simp only [List.all_cons,List.all_nil,Bool.and_true] at hs ⊢
  rw [<- hs];exact (wNV r _).sp s),if_pos (hy.elim fun y F=>⟨y,wMp F⟩)]
theorem wHY {r:wAA} (S:wCa r) (k:Nat):wCa (lsR r k):=⟨S.n,S.m,S.c,by
 have:=wHX (fun i=>decide (k=i)) r.Readings r.Readings.length
 have:=S.q
 exact Nat.le_trans (by assumption) (by assumption)⟩
theorem wKt {r:wAA} (S:wCa r) {s:wAL} (c:wFZ r [s]=0) {f g:Pt->Int} (hf:IsDP r zp f) (hg:IsDP r (pt s) g) {F G:Nat->Pt->Int} (hF:∀ k,k < r.Readings.length->IsDP (lsR r k) zp (F k)) (hG:∀ k,k < r.Readings.length->IsDP (lsR r k) (pt s) (G k)):wAx (cv r) (sp6 s)=some (mtL (fun k=>decide (0 < max (-g zp - -G k zp) (F k (pt s) - f (pt s)))) r.Readings.length,0):=by
 have hq:=(wNz c).1.q
 unfold wAx
 rw [wJO S c hf hg,hD]
 simp only
 rw [if_pos trivial]
 refine wFR (m:=r.Readings.length) (fun i=>(mtL (fun k=>decide (0 < max (-g zp - -G k zp) (F k (pt s) - f (pt s)))) i,(i:Int))) (fun i hi=>?_) ?_ rfl (by omega)
 ·have ml:=wGl (fun k=>decide (0 < max (-g zp - -G k zp) (F k (pt s) - f (pt s)))) i
  have el:lsW r (fun j=>decide (j=i) || decide (j=i))=lsR r i:=by
   unfold lsW lsR
   rw [show (fun j=>decide (j=i) || decide (j=i))=fun j:Nat=>decide (i=j) from funext fun j=>by rw [Bool.or_self];exact decide_eq_decide.2 ⟨fun h=>h.symm,fun h=>h.symm⟩]
  dsimp only
  rw [wFl,if_pos (by omega),wJv hq,hD,el,wJO (wHY S i) (wMt c i) (hF i hi) (hG i hi),hD,hD,wAY (by omega) (by omega),wML]
  dsimp only
  by_cases h1:-G i zp < -g zp
  ·rw [if_pos h1,if_pos (decide_eq_true (by omega)),wEH (by simp only [nA,hH];omega),hD];rfl
  ·rw [if_neg h1]
   by_cases h2:f (pt s) < F i (pt s)
   ·rw [if_pos h2,if_pos (decide_eq_true (by omega)),wEH (by simp only [nA,hH];omega),hD];rfl
   ·rw [if_neg h2,if_neg (by rw [decide_eq_false (by omega)];simp)];rfl
 ·dsimp only
  rw [wFl,if_neg (by omega)];rfl
theorem wJy {r:wAA} (S:wCa r) {s:wAL} (c:wFZ r [s] ≠ 0):wAx (cv r) (sp6 s)=some ([],wFZ r [s]):=by
 unfold wAx wBP
 rw [wJM S,hD,wKU,if_neg c,hD]
 simp only
 rw [if_neg c]
theorem wKu {r:wAA} (S:wCa r) {s:wAL} (c:wFZ r [s] ≠ 0):wCi r s=some ([],wFZ r [s]):=by
 unfold wCi
 obtain ⟨o,e,_,h0⟩:=wKV S (l:=[s]) (by simp)
 rw [e,h0 c,hD]
 simp only
 rw [if_neg c]
end Go.Proofs.YtlnfbjphfoipaaaGreat
namespace Go.Proofs.YtlnfbjphfoipaaaGreat
open Go.KL Go.KL.Net
theorem wMV {r:wAA} (S:wCa r):wCL r=some r:=by
 have hn:=S.n;have hm:=S.m;have hc:=S.c;have hq:=S.q
 unfold wCL wBR wAv wBU wBM
 rw [wEH (by simp only [hH];omega),hD,hD,wEH (by simp only [hH];omega),hD,hD,wEH (by simp only [hH];omega),hD,hD,wEH (by simp only [hH];omega)]
 rfl
end Go.Proofs.YtlnfbjphfoipaaaGreat
namespace Go.Proofs.YtlnfbjphfoipaaaGreat
open Go.KL Go.KL.Net
open Classical
theorem wNg (r:wAA):wBs r=some true \/ (wBs r=some false/\wCa r):=by
 unfold wBs
 by_cases c1:10 < (r.Starts.length:Int)
 ·exact .inl (if_pos c1)
 rw [if_neg c1]
 by_cases c2:9 < (r.Splits.length:Int)
 ·exact .inl (if_pos c2)
 rw [if_neg c2]
 by_cases c3:6 < (r.Clocks.length:Int)
 ·exact .inl (if_pos c3)
 rw [if_neg c3]
 by_cases c4:44 < (r.Readings.length:Int)
 ·exact .inl (by rw [decide_eq_true c4])
 ·exact .inr ⟨by rw [decide_eq_false c4],⟨by omega,by omega,by omega,by omega⟩⟩
end Go.Proofs.YtlnfbjphfoipaaaGreat
namespace Go.Proofs.YtlnfbjphfoipaaaGreat
open Go.KL Go.KL.Net
theorem wNh {r:wAA} (S:wCa r):wCW r r=some true:=by
 have hn:=S.n;have hm:=S.m;have hc:=S.c;have hq:=S.q
 unfold wCW wAf wBH wBV wBN
 rw [wEu (by omega),hD,if_pos rfl,wEu (by omega),hD,if_pos rfl,wEu (by omega),hD,if_pos rfl,wEu (by omega)]
 rfl
end Go.Proofs.YtlnfbjphfoipaaaGreat
namespace Go.Proofs.YtlnfbjphfoipaaaGreat
set_option maxRecDepth 100000 in
theorem aw06:wCK=some true:=by decide +kernel
end Go.Proofs.YtlnfbjphfoipaaaGreat
namespace Go.Proofs.YtlnfbjphfoipaaaGreat
open Go.KL Go.KL.Net Go.KL.Floyd
open Classical
theorem eqI6 {l:List Int} (h:l.length <= 1000):wAf l l=some true:=by
 unfold wAf
 exact wEu (by omega)
theorem wMW (r:wAA):(wNX r).1.length <= 2:=by
 unfold wNX
 split
 ·simp
 ·cases h1:fnd (wMM r) r.Readings.length 0 with
  | some v =>
   obtain ⟨i,_,_,h⟩:=wHG _ _ h1
   unfold wMM at h
   split at h
   ·cases h;simp
   ·cases h
  | none =>
   cases h2:fnd (fun k=>fnd (wKX r k) (r.Readings.length - (k + 1)) (k + 1)) r.Readings.length 0 with
   | some v =>
    obtain ⟨i,_,_,h⟩:=wHG _ _ h2
    obtain ⟨j,_,_,h⟩:=wHG _ _ h
    unfold wKX at h
    split at h
    ·cases h;simp
    ·cases h
   | none=>simp
theorem wMX (r:wAA):(wNY r).1.length <= r.Starts.length:=by
 unfold wNY
 split
 ·simp
 ·exact wGl _ _
theorem wJP (p0:wAA) (p1:wAL):wBf p0 p1=some true:=by
 have aw:=aw06
 unfold wBf
 rcases wNg p0 with h | ⟨h,S⟩
 ·rw [h,hD,if_pos rfl,hD,if_pos rfl,aw];rfl
 rw [h,hD,if_neg (by simp)]
 have hn:=S.n;have hq:=S.q
 obtain ⟨b,eb⟩:∃ b:Bool,(if 10 < (↑p0.Readings.length:Int) then
   if (↑p0.Readings.length:Int) <= 40 then
    some true
   else
    some (decide (20 < (w64 ((↑p0.Starts.length:Int) * (w64 ((↑p0.Splits.length:Int) + 1))))))
  else
   some (decide (20 < (w64 ((↑p0.Starts.length:Int) * (w64 ((↑p0.Splits.length:Int) + 1)))))))=some b:=by
  split
  ·split
   ·exact ⟨_,rfl⟩
   ·exact ⟨_,rfl⟩
  ·exact ⟨_,rfl⟩
 rw [eb,hD]
 by_cases hb:b=true
 ·rw [if_pos hb,aw];rfl
 rw [if_neg hb,wMV S,hD,wNe S,hD,hD]
 simp only
 rw [show (⟨(cv p0).Starts,(cv p0).Splits,(cv p0).Clocks,(cv p0).Readings⟩:wAK)=cv p0 from rfl,show (⟨p0.Starts,p0.Splits,p0.Clocks,p0.Readings⟩:wAA)=p0 from rfl,wKs S,hD,wJx S,hD]
 simp only
 obtain ⟨X,hX,eX,eY⟩:∃ X:List wAL,X.length <= 1000/\(if code p0=0 then msA p0 p0.Starts.length else [])=X/\(if code p0=0 then (msA p0 p0.Starts.length).map sp6 else [])=X.map sp6:=by
  by_cases c:code p0=0
  ·refine ⟨_,?_,if_pos c,if_pos c⟩
   have h1:=wIe p0 p0.Starts.length
   have h3:p0.Starts.length * p0.Splits.length <= 10 * 9:=nH hn S.m
   omega
  ·exact ⟨[],by simp,if_neg c,if_neg c⟩
 rw [eX,eY,if_pos trivial,if_pos (by rw [nB]),wLV (by omega) fun k hk=>by
  rw [wDM (by omega) (by omega),hD,wDM (by omega) (by rw [nB];omega),hD,wFQ _ hk]
  exact if_pos rfl,wJe]
 obtain ⟨F,hF,f1,f2⟩:∃ F:List Int × Int,F.1.length <= 1000/\wCg p0=some F/\wBB (cv p0)=some F:=by
  by_cases c:code p0=0
  ·exact ⟨wNX p0,by have:=wMW p0;omega,wMN S c,wLq S c⟩
  ·exact ⟨_,by simp,wLi S c,wKq S c⟩
 obtain ⟨B,hB,b1,b2⟩:∃ B:List Int × Int,B.1.length <= 1000/\wCh p0=some B/\wBC (cv p0)=some B:=by
  by_cases c:code p0=0
  ·exact ⟨wNY p0,by have:=wMX p0;omega,wMO S c,wLr S c⟩
  ·exact ⟨_,by simp,wLj S c,wKr S c⟩
 obtain ⟨M,hM,m1,m2⟩:∃ M:List Int × Int,M.1.length <= 1000/\wCi p0 p1=some M/\wAx (cv p0) (sp6 p1)=some M:=by
  by_cases c:wFZ p0 [p1]=0
  ·obtain ⟨C,c0,hs,hy⟩:=wNz c
   simp only [List.all_cons,List.all_nil,Bool.and_true] at hs
   have hp:=(wJu (r:=p0) (s:=p1) hs).1
   obtain ⟨f,hf⟩:=wKW S c0 hy (a:=zp) (.inl rfl)
   obtain ⟨g,hg⟩:=wKW S c0 hy hp
   have e:=fun k=>wNz (wMt c k)
   obtain ⟨F,hF⟩:=nE (r:=fun (k:Nat) (F:Pt->Int)=>IsDP (lsR p0 k) zp F) fun k=>wKW (wHY S k) (e k).2.1 (e k).2.2.2 (a:=zp) (.inl rfl)
   obtain ⟨G,hG⟩:=nE (r:=fun (k:Nat) (G:Pt->Int)=>IsDP (lsR p0 k) (pt p1) G) fun k=>wKW (wHY S k) (e k).2.1 (e k).2.2.2 (((wNV p0 (wGk (fun i=>decide (k=i)) p0.Readings p0.Readings.length)).pt (p:=pt p1)).2 hp)
   exact ⟨_,by have:=wGl (fun k=>decide (0 < max (-g zp - -G k zp) (F k (pt p1) - f (pt p1)))) p0.Readings.length;simp only;omega,wLh S c hf hg (fun k _=>hF k) (fun k _=>hG k),wKt S c hf hg (fun k _=>hF k) (fun k _=>hG k)⟩
  ·exact ⟨_,by simp,wKu S c,wJy S c⟩
 rw [f1,hD,f2,hD]
 simp only
 rw [if_pos trivial,eqI6 hF,hD,if_pos rfl,b1,hD,b2,hD]
 simp only
 rw [if_pos trivial,eqI6 hB,hD,if_pos rfl,m1,hD,show (⟨p1.Skier,p1.Mat⟩:wAR)=sp6 p1 from rfl,m2,hD]
 simp only
 rw [if_pos trivial,eqI6 hM,hD,if_pos rfl,wNh S,hD,if_pos rfl,aw]
 rfl
end Go.Proofs.YtlnfbjphfoipaaaGreat
