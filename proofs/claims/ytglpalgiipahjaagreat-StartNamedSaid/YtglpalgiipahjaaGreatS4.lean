import Derived.Test.YtglpalgiipahjaaGreatS3
import Derived.Test.YtglpalgiipahjaaGreatS0
import Derived.Lib.SlicesCompact
set_option linter.all false
open List renaming flatMap->nA
open Go.Value renaming int->nB
namespace Go.KL
open Go.RowKit Go.Lib Go.Sort
def wGJ (l:List Int):Option (List Int):=if l.length < 4611686018427387904 then some (Go.Lib.compact l) else none
theorem wKA (l:List Int):(Go.Lib.compact l).length <= l.length:=by
 unfold Go.Lib.compact Go.Lib.compactUpTo
 rw [List.length_map]
 exact Nat.le_trans (List.length_filter_le _ _) (by simp)
theorem wKB {P:Program} {f T:Nat} {A:Option Addr} {c:Nat} {p r:List Int} {w:World} {U:PHeap}
  (H:∀ (blk off cap:Nat) (zs:List Int) (w:World),Go.Sort.Holds (nB .i64) w blk off zs.toArray->zs.length <= 9223372036854775807->zs.length <= cap->Calls P f #[.slice (some ⟨blk,off,none⟩) zs.length cap] w fun e w'=>e=.returned (.slice (some ⟨blk,off,none⟩) (Go.Lib.compact zs).length cap)/\∃ q,w'=Go.Sort.putRow (nB .i64) (Go.Sort.ahead w q) blk off (Go.Lib.compact zs ++ List.replicate (zs.length - (Go.Lib.compact zs).length) 0).toArray)
  (HN:∀ (p:Option Addr) (cap:Nat) (w:World),Calls P f #[.slice p 0 cap] w fun e w'=>e=.returned (.slice p 0 cap)/\w'=w)
  (hS:St ⟨w,[.row A c T 1 (nA encI p)],U⟩ U [.row A c T 1 (nA encI p)] w) (hm:wGJ p=some r) :
  Gv P f [.slice A p.length c] w (wCO w [.row A c T 1 (nA encI p)] U fun U_ L_ v=>∃ (A0:Option Addr) (c0:Nat),v=.slice A0 r.length c0/\L_=[.row A0 c0 T 1 (nA encI r)]):=by
 unfold wGJ at hm
 split at hm
 ·rename_i hlen
  cases hm
  have hfl:∀ l:List Int,l.flatMap encI=l.map (nB .i64):=fun l=>wEx l
  have hr:=hS.at_ _ (List.mem_cons_self ..)
  have nil:p=[]->Gv P f [.slice A p.length c] w (wCO w [.row A c T 1 (nA encI p)] U fun U_ L_ v=>∃ (A0:Option Addr) (c0:Nat),v=.slice A0 (Go.Lib.compact p).length c0/\L_=[.row A0 c0 T 1 (nA encI (Go.Lib.compact p))]):=by
   rintro rfl
   refine Calls.mono' (HN A c w) ?_
   rintro e w' ⟨rfl,rfl⟩
   exact ⟨_,rfl,U,_,hS,A,c,rfl,rfl⟩
  rcases hr with ⟨rfl,rfl,h0⟩ | ⟨b,cur,rfl,h1,h2,_⟩
  ·refine nil ?_
   rw [hfl] at h0
   simpa using h0
  ·obtain ⟨g1,g2⟩:=hS.holds (k:=0) rfl
   rw [hfl] at g1 h2
   refine Calls.mono' (H b 0 c p w (wGj _ _ _ _ _ (by simpa using g1)) (by omega) (by simpa using h2)) ?_
   rintro e w' ⟨rfl,n,rfl⟩
   have hl:=wKA p
   have s1:=hS.sorted (k:=0) (n:=n) (os:=#[]) (cs':=(Go.Lib.compact p ++ List.replicate (p.length - (Go.Lib.compact p).length) 0).map (nB .i64)) rfl (by rw [hfl];simp;omega)
   have e0:∀ x:World,Go.Sort.grow x #[]=x:=fun x=>by simp [Go.Sort.grow]
   rw [e0,List.map_append] at s1
   have s2:=s1.cutRow (k:=0) rfl
   refine ⟨_,rfl,U,[.row (some ⟨b,0,none⟩) c T 1 (nA encI (Go.Lib.compact p))],?_,_,c,rfl,rfl⟩
   rw [wEc,hfl (Go.Lib.compact p)]
   simpa using s2
 ·cases hm
end Go.KL
