/- Walks, printed by a program: each function does what its model says. -/
import Derived.Test.YtfdnbaahdjlapaaGreatEnc
import Derived.Test.YtfdnbaahdjlapaaGreatW0
namespace Go.Proofs.YtfdnbaahdjlapaaGreat
open Go.KL
set_option maxHeartbeats 4000000 in
theorem w_klisterkit_Deck_Between (p0 : T_klisterkit_Deck) (pb0 : Nat) (pA0_0 : Option Addr) (pc0_0 : Nat) (p1 : Int) (p2 : Int) (w : World) (φ : PHeap) (hS : St ⟨w, [.blk pb0 126 [.slice pA0_0 p0.bytes.length pc0_0, .int .i64 p0.next, .int .u32 p0.state]], φ⟩ φ [.blk pb0 126 [.slice pA0_0 p0.bytes.length pc0_0, .int .i64 p0.next, .int .u32 p0.state]] w) (ha0 : Sl φ 1 pA0_0 pc0_0 p0.bytes.length (List.flatMap encB8 p0.bytes)) {r : Int × T_klisterkit_Deck} (hm : m_klisterkit_Deck_Between p0 p1 p2 = some r) : Gv Tryz.prog 24 [.pointer (some ⟨pb0, 0, none⟩), .int .i64 p1, .int .i64 p2] w (RetS w [.blk pb0 126 [.slice pA0_0 p0.bytes.length pc0_0, .int .i64 p0.next, .int .u32 p0.state]] φ (fun φ_ L_ v => ∃ (Ao00 : Option Addr) (co00 : Nat), v = .int .i64 r.1 ∧ L_ = [.blk pb0 126 [.slice Ao00 r.2.bytes.length co00, .int .i64 r.2.next, .int .u32 r.2.state]] ∧ Sl φ_ 1 Ao00 co00 r.2.bytes.length (List.flatMap encB8 r.2.bytes))) := by
 unfold m_klisterkit_Deck_Between at hm
 refine Gv.of Tryz.func24 rfl Tryz.ntmps24 Tryz.results24 rfl ?_
 refine CK.seq ?_
 refine CK.reg (ks := []) (.fl 0 (.nil)) rfl ?_
 refine OKS.ra rfl rfl rfl rfl rfl rfl ?_
 refine OKS.e ?_
 refine thenQ_n ?_
 refine CK.seq ?_
 refine CK.reg (ks := []) (.fl 0 (.fl 1 (.fl 2 (.fl 3 (.fl 4 (.fl 5 (.fx 6 (.fl 7 (.fl 8 (.nil))) .stop))))))) rfl ?_
 refine OKS.rm rfl rfl rfl rfl rfl rfl ?_
 refine OKS.rm rfl rfl rfl rfl rfl rfl ?_
 refine OKS.rm rfl rfl rfl rfl rfl rfl ?_
 refine OKS.rm rfl rfl rfl rfl rfl rfl ?_
 refine OKS.r rfl rfl rfl rfl (fun _ => Runs.subw rfl rfl rfl) ?_
 refine OKS.r rfl rfl rfl rfl (fun _ => Runs.addw rfl rfl rfl) ?_
 have q := bnd hm
 obtain ⟨⟨x2, x3⟩, h4, hm5⟩ := q
 try dsimp only at hm5
 refine OKS.callH 1 rfl rfl rfl rfl (Enters.mk rfl rfl Tryz.call22 (mapcons rfl (mapcons rfl mapnil)) rfl) hS (fun hs => w_klisterkit_Deck_Draw p0 pb0 pA0_0 pc0_0 (w64 ((w64 (p2 - p1)) + 1)) w φ hs ha0 h4) (.inl rfl) ?_
 rintro φ6 L7 v8 W9 le10 hS11 ⟨A12, c13, rfl, rfl, h14⟩
 have hS15 : St ⟨w, [.blk pb0 126 [.slice pA0_0 p0.bytes.length pc0_0, .int .i64 p0.next, .int .u32 p0.state]], φ⟩ φ6 [.blk pb0 126 [.slice A12 x3.bytes.length c13, .int .i64 x3.next, .int .u32 x3.state]] W9 := hS11
 refine OKS.r rfl rfl rfl rfl (fun _ => Runs.addw rfl rfl rfl) ?_
 refine OKS.ra rfl rfl rfl rfl rfl rfl ?_
 refine OKS.e ?_
 refine thenQ_n ?_
 refine CK.ret ?_
 cases hm5
 exact ⟨rfl, _, (res1 rfl), φ6, _, hS15, A12, c13, rfl, rfl, h14⟩

set_option maxHeartbeats 4000000 in
theorem w_klisterlaw08_within (p0 : Int) (p1 : T_api_Span) (w : World) (φ : PHeap) (hS : St ⟨w, [], φ⟩ φ [] w)  {r : Bool} (hm : m_klisterlaw08_within p0 p1 = some r) : Gv Tryz.prog 25 [.int .i64 p0, .agg #[.int .i64 p1.Lo, .int .i64 p1.Hi]] w (RetS w [] φ (fun φ_ L_ v => v = .bool r ∧ L_ = [])) := by
 unfold m_klisterlaw08_within at hm
 refine Gv.of Tryz.func25 rfl Tryz.ntmps25 Tryz.results25 rfl ?_
 refine CK.seq ?_
 refine CK.reg (ks := []) (.fx 0 (.fl 1 (.nil)) .stop) rfl ?_
 refine OKS.box (cs := [.int .i64 p1.Lo, .int .i64 p1.Hi]) rfl rfl rfl rfl rfl rfl (by rfl) hS ?_
 intro W1 b2 hS3
 refine OKS.ra rfl rfl rfl rfl rfl rfl ?_
 refine OKS.e ?_
 refine thenQ_n ?_
 refine CK.seq ?_
 refine CK.reg (ks := []) (.fl 0 (.fl 1 (.fl 2 (.fl 3 (.fl 4 (.fl 5 (.fl 6 (.fl 7 (.fl 8 (.fl 9 (.fl 10 (.nil)))))))))))) rfl ?_
 refine OKS.rm rfl rfl rfl rfl rfl rfl ?_
 refine OKS.r rfl rfl rfl rfl (fun _ => Runs.fa rfl rfl Tryz.runUnderlying46 rfl Tryz.sizeOf3) ?_
 refine OKS.m rfl rfl rfl rfl (hS3.ldB (j := 0) rfl rfl rfl Tryz.isAgg3 (v := .int .i64 p1.Lo) rfl) rfl ?_
 refine OKS.r rfl rfl rfl rfl (fun _ => Runs.geq rfl rfl rfl) ?_
 refine OKS.rm rfl rfl rfl rfl rfl rfl ?_
 by_cases c5 : p1.Lo ≤ p0
 ·have hm6 := hm; rw [if_pos c5] at hm6; replace c5 := Hid.mk c5
  refine OKS.rm rfl rfl rfl (wantedY rfl rfl (decT c5.out)) rfl rfl ?_
  refine OKS.r rfl rfl rfl (wantedY rfl rfl (decT c5.out)) (fun _ => Runs.fa rfl rfl Tryz.runUnderlying46 rfl Tryz.sizeOf3) ?_
  refine OKS.m rfl rfl rfl (wantedY rfl rfl (decT c5.out)) (hS3.ldB (j := 0) rfl rfl rfl Tryz.isAgg3 (v := .int .i64 p1.Hi) rfl) rfl ?_
  refine OKS.r rfl rfl rfl (wantedY rfl rfl (decT c5.out)) (fun _ => Runs.leq rfl rfl rfl) ?_
  refine OKS.r rfl rfl rfl rfl (fun _ => Runs.pickT rfl (decT c5.out) rfl) ?_
  refine OKS.ra rfl rfl rfl rfl rfl rfl ?_
  refine OKS.e ?_
  refine thenQ_n ?_
  refine CK.ret ?_
  cases hm6
  exact ⟨rfl, _, (res1 rfl), φ, _, (hS3.pick [] _ (by decide) rfl), rfl, rfl⟩
 ·have hm7 := hm; rw [if_neg c5] at hm7; replace c5 := Hid.mk c5
  refine OKS.p rfl rfl rfl (wantedN rfl rfl (decF c5.out) rfl) ?_
  refine OKS.p rfl rfl rfl (wantedN rfl rfl (decF c5.out) rfl) ?_
  refine OKS.p rfl rfl rfl (wantedN rfl rfl (decF c5.out) rfl) ?_
  refine OKS.p rfl rfl rfl (wantedN rfl rfl (decF c5.out) rfl) ?_
  refine OKS.r rfl rfl rfl rfl (fun _ => Runs.pickF rfl (decF c5.out) rfl) ?_
  refine OKS.ra rfl rfl rfl rfl rfl rfl ?_
  refine OKS.e ?_
  refine thenQ_n ?_
  refine CK.ret ?_
  cases hm7
  exact ⟨rfl, _, (res1 rfl), φ, _, (hS3.pick [] _ (by decide) rfl), rfl, rfl⟩

theorem w_klisterlaw08_awake (w : World) (φ : PHeap) (hS : St ⟨w, [], φ⟩ φ [] w) {r : Bool} (hm : m_klisterlaw08_awake = some r) : Gv Tryz.prog 8 [] w (RetS w [] φ (fun φ_ L_ v => v = .bool r ∧ L_ = [])) := by
  cases hm
  refine (xr8 w).mono ?_
  rintro v w' ⟨rfl, k⟩
  exact ⟨φ, [], hS.grow k, rfl, rfl⟩

set_option maxHeartbeats 4000000 in
theorem w_klisterlaw08_RelayChanced (p0 : List Int) (pA0 : Option Addr) (pc0 : Nat) (p1 : List Int) (pA1 : Option Addr) (pc1 : Nat) (w : World) (φ : PHeap) (hS : St ⟨w, [], φ⟩ φ [] w) (ha0 : Sl φ 1 pA0 pc0 p0.length (List.flatMap encB8 p0)) (ha1 : Sl φ 1 pA1 pc1 p1.length (List.flatMap encB8 p1)) {r : Bool} (hm : m_klisterlaw08_RelayChanced p0 p1 = some r) : Gv Tryz.prog 5 [.slice pA0 p0.length pc0, .slice pA1 p1.length pc1] w (RetS w [] φ (fun φ_ L_ v => v = .bool r ∧ L_ = [])) := by
 unfold m_klisterlaw08_RelayChanced at hm
 refine Gv.of Tryz.func5 rfl Tryz.ntmps5 Tryz.results5 rfl ?_
 refine CK.seq ?_
 refine CK.reg (ks := []) (.fl 0 (.nil)) rfl ?_
 refine OKS.ra rfl rfl rfl rfl rfl rfl ?_
 refine OKS.e ?_
 refine thenQ_n ?_
 refine CK.seq ?_
 refine CK.reg (ks := []) (.fl 0 (.fx 1 (.fl 2 (.fx 3 (.fl 4 (.fl 5 (.nil))) .stop)) .stop)) rfl ?_
 refine OKS.rm rfl rfl rfl rfl rfl rfl ?_
 have q := bnd hm
 obtain ⟨x1, h2, hm3⟩ := q
 refine OKS.callH 0 rfl rfl rfl rfl (Enters.mk rfl rfl Tryz.call21 (mapcons rfl mapnil) rfl) hS (fun hs => w_klisterkit_Of p0 pA0 pc0 w φ hs ha0 h2) (.inr rfl) ?_
 rintro φ4 L5 v6 W7 le8 hS9 ⟨b10, A11, c12, rfl, rfl, h14⟩
 have hS15 : St ⟨w, [], φ⟩ φ4 [.blk b10 126 [.slice A11 x1.bytes.length c12, .int .i64 x1.next, .int .u32 x1.state]] W7 := hS9
 refine OKS.rm rfl rfl rfl rfl rfl rfl ?_
 have h16 := ha1.le le8
 have q := bnd hm3
 obtain ⟨x17, h18, hm19⟩ := q
 refine OKS.callH 0 rfl rfl rfl rfl (Enters.mk rfl rfl Tryz.call21 (mapcons rfl mapnil) rfl) hS15 (fun hs => w_klisterkit_Of p1 pA1 pc1 W7 φ4 hs h16 h18) (.inr rfl) ?_
 rintro φ20 L21 v22 W23 le24 hS25 ⟨b26, A27, c28, rfl, rfl, h30⟩
 have hS31 : St ⟨w, [], φ⟩ φ20 [.blk b26 126 [.slice A27 x17.bytes.length c28, .int .i64 x17.next, .int .u32 x17.state], .blk b10 126 [.slice A11 x1.bytes.length c12, .int .i64 x1.next, .int .u32 x1.state]] W23 := hS25
 refine OKS.ra rfl rfl rfl rfl rfl rfl ?_
 refine OKS.ra rfl rfl rfl rfl rfl rfl ?_
 refine OKS.e ?_
 refine thenQ_n ?_
 refine CK.seq ?_
 refine CK.reg (ks := []) (.fl 0 (.nil)) rfl ?_
 refine OKS.ra rfl rfl rfl rfl rfl rfl ?_
 refine OKS.e ?_
 refine thenQ_n ?_
 refine CK.seq ?_
 refine CK.seq ?_
 refine CK.reg (ks := []) (.fl 0 (.fx 1 (.fl 2 (.nil)) .stop)) rfl ?_
 refine OKS.rm rfl rfl rfl rfl rfl rfl ?_
 have h32 := h14.le le24
 have q := bnd hm19
 obtain ⟨⟨x33, x34⟩, h35, hm36⟩ := q
 try dsimp only at hm36
 have hS37 : St ⟨w, [], φ⟩ φ20 [.blk b10 126 [.slice A11 x1.bytes.length c12, .int .i64 x1.next, .int .u32 x1.state], .blk b26 126 [.slice A27 x17.bytes.length c28, .int .i64 x17.next, .int .u32 x17.state]] W23 := hS31.pick [1, 0] _ (by decide) rfl
 refine OKS.callH 1 rfl rfl rfl rfl (Enters.mk rfl rfl Tryz.call22 (mapcons rfl (mapcons rfl mapnil)) rfl) hS37 (fun hs => w_klisterkit_Deck_Draw x1 b10 A11 c12 13 W23 φ20 hs h32 h35) (.inl rfl) ?_
 rintro φ38 L39 v40 W41 le42 hS43 ⟨A44, c45, rfl, rfl, h46⟩
 have hS47 : St ⟨w, [], φ⟩ φ38 [.blk b10 126 [.slice A44 x34.bytes.length c45, .int .i64 x34.next, .int .u32 x34.state], .blk b26 126 [.slice A27 x17.bytes.length c28, .int .i64 x17.next, .int .u32 x17.state]] W41 := hS43
 refine OKS.rm rfl rfl rfl rfl rfl rfl ?_
 refine OKS.e ?_
 refine thenQ_n ?_
 refine CK.block ?_
 have q := bnd hm36
 obtain ⟨⟨y90, y91, y92, y93⟩, hf87, hm86⟩ := q
 try dsimp only at hm86
 have q := forR'_le hf87
 obtain ⟨hle88, hf89⟩ := q
 replace hle88 := Hid.mk hle88
 refine CK.forN' (fun k85 (l76, x79, x80, l81) σ_ w_ => ∃ (φ_ : PHeap) (A77 : Option Addr) (c78 : Nat) (A82 : Option Addr) (c83 : Nat), σ_ 26 = .int .i64 (↑k85 : Int) ∧ σ_ 5 = .pointer (some ⟨b10, 0, none⟩) ∧ σ_ 6 = .pointer (some ⟨b26, 0, none⟩) ∧ σ_ 7 = .slice A82 l81.length c83 ∧ σ_ 25 = .int .i64 x33 ∧ PHeap.Le φ38 φ_ ∧ St ⟨w, [], φ⟩ φ_ [.blk b10 126 [.slice A77 l76.length c78, .int .i64 x79, .int .u32 x80], .blk b26 126 [.slice A27 x17.bytes.length c28, .int .i64 x17.next, .int .u32 x17.state], .row A82 c83 46 2 (List.flatMap encT_api_Span l81)] w_ ∧ Sl φ_ 1 A77 c78 l76.length (List.flatMap encB8 l76)) hf89 ?_ ?_ ?_
 ·have hS94 := hS47.nilrow 46 2
  exact ⟨φ38, A44, c45, none, 0, rfl, rfl, rfl, rfl, rfl, (PHeap.Le.refl _), (hS94.pick [1, 2, 0] _ (by decide) rfl), h46⟩
 ·rintro k85 ⟨l76, x79, x80, l81⟩ xx98 σ96 W97 hk101 ⟨φ103, A77, c78, A82, c83, fi102, f106, f107, f108, f109, le104, hS105, h110⟩ hx99
  try dsimp only at hx99
  have c111 : Hid ((↑k85 : Int) < x33) := Hid.mk (lp_lt0 hk101)
  replace hk101 := Hid.mk hk101
  have hi112 : Hid (w64 ((↑k85 : Int) + 1) = (↑(k85 + 1) : Int)) := Hid.mk (by have h1 := hle88.out; have h2 := c111.out; rw [w64_in] <;> omega)
  refine CK.seq ?_
  refine CK.reg (ks := []) (.fl 0 (.nil)) rfl ?_
  refine OKS.r rfl rfl rfl rfl (fun _ => Runs.lss rfl fi102 f109) ?_
  refine OKS.e ?_
  refine thenQ_n ?_
  refine CK.seq ?_
  refine CK.condT (decT c111.out) ?_
  refine CK.skip ?_
  refine thenQ_n ?_
  refine CK.seq ?_
  refine CK.block ?_
  refine CK.seq ?_
  refine CK.reg (ks := []) (.fl 0 (.fx 1 (.fl 2 (.nil)) .stop)) rfl ?_
  refine OKS.rm rfl rfl rfl rfl rfl f106 ?_
  have q := bnd hx99
  obtain ⟨⟨x113, x114⟩, h115, hm116⟩ := q
  try dsimp only at hm116
  refine OKS.callH 1 rfl rfl rfl rfl (Enters.mk rfl rfl Tryz.call22 (mapcons rfl (mapcons rfl mapnil)) rfl) hS105 (fun hs => w_klisterkit_Deck_Draw (⟨l76, x79, x80⟩ : T_klisterkit_Deck) b10 A77 c78 60 W97 φ103 hs h110 h115) (.inl rfl) ?_
  rintro φ117 L118 v119 W120 le121 hS122 ⟨A123, c124, rfl, rfl, h125⟩
  have hS126 : St ⟨w, [], φ⟩ φ117 [.blk b10 126 [.slice A123 x114.bytes.length c124, .int .i64 x114.next, .int .u32 x114.state], .blk b26 126 [.slice A27 x17.bytes.length c28, .int .i64 x17.next, .int .u32 x17.state], .row A82 c83 46 2 (List.flatMap encT_api_Span l81)] W120 := hS122
  refine OKS.ra rfl rfl rfl rfl rfl rfl ?_
  refine OKS.e ?_
  refine thenQ_n ?_
  refine CK.reg (ks := []) (.fl 0 (.fl 1 (.fl 2 (.fl 3 (.fx 4 (.fl 5 (.fl 6 (.fx 7 (.fx 8 (.fl 9 (.nil)) .stop) .stop))) .stop))))) rfl ?_
  refine OKS.rm rfl rfl rfl rfl rfl f108 ?_
  refine OKS.rm rfl rfl rfl rfl rfl rfl ?_
  refine OKS.rm rfl rfl rfl rfl rfl rfl ?_
  refine OKS.rm rfl rfl rfl rfl rfl f106 ?_
  have q := bnd hm116
  obtain ⟨⟨x127, x128⟩, h129, hm130⟩ := q
  try dsimp only at hm130
  refine OKS.callH 1 rfl rfl rfl rfl (Enters.mk rfl rfl Tryz.call22 (mapcons rfl (mapcons rfl mapnil)) rfl) hS126 (fun hs => w_klisterkit_Deck_Draw x114 b10 A123 c124 25 W120 φ117 hs h125 h129) (.inl rfl) ?_
  rintro φ131 L132 v133 W134 le135 hS136 ⟨A137, c138, rfl, rfl, h139⟩
  have hS140 : St ⟨w, [], φ⟩ φ131 [.blk b10 126 [.slice A137 x128.bytes.length c138, .int .i64 x128.next, .int .u32 x128.state], .blk b26 126 [.slice A27 x17.bytes.length c28, .int .i64 x17.next, .int .u32 x17.state], .row A82 c83 46 2 (List.flatMap encT_api_Span l81)] W134 := hS136
  refine OKS.r rfl rfl rfl rfl (fun _ => Runs.addw rfl rfl rfl) ?_
  refine OKS.r rfl rfl rfl rfl (fun _ => Runs.build (pv := [(0, .int .i64 x113), (1, .int .i64 (w64 (x113 + x127)))]) (z := [.int .i64 0, .int .i64 0]) (cs := [.int .i64 x113, .int .i64 (w64 (x113 + x127))]) rfl (mapcons2 rfl (mapcons2 rfl mapnil2)) Tryz.zeroValue46 places46 rfl rfl) ?_
  refine OKS.buildSlice (pv := [(0, .agg #[.int .i64 x113, .int .i64 (w64 (x113 + x127))])]) (zs := [.int .i64 0, .int .i64 0]) (cs := [.int .i64 x113, .int .i64 (w64 (x113 + x127))]) rfl rfl rfl rfl rfl (mapcons2 rfl mapnil2) Tryz.runUnderlying43 Tryz.sizeOf46 Tryz.zeroValue46 rfl rfl rfl rfl rfl hS140 ?_
  intro W141 b142 hS143
  have hS145 : St ⟨w, [], φ⟩ φ131 [.row (some ⟨b142, 0, none⟩) 1 46 2 (List.flatMap encT_api_Span [(⟨x113, w64 (x113 + x127)⟩ : T_api_Span)]), .blk b10 126 [.slice A137 x128.bytes.length c138, .int .i64 x128.next, .int .u32 x128.state], .blk b26 126 [.slice A27 x17.bytes.length c28, .int .i64 x17.next, .int .u32 x17.state], .row A82 c83 46 2 (List.flatMap encT_api_Span l81)] W141 := hS143
  have q := bnd hm130
  obtain ⟨x146, h147, hm148⟩ := q
  refine OKS.append (j := 3) (enc := encT_api_Span) (xs := l81) (ys := [(⟨x113, w64 (x113 + x127)⟩ : T_api_Span)]) (zs := x146) rfl rfl rfl rfl rfl Tryz.underlying43 info46 rfl rfl rfl rfl rfl rfl hS145 rfl rfl rfl (hS145.srcR (j := 0) rfl (by decide) (flatMap_len (f := encT_api_Span) (sz := 2) (fun _ => rfl) [(⟨x113, w64 (x113 + x127)⟩ : T_api_Span)])) (fun _ => rfl) (fun _ => rfl) h147 rfl ?_
  intro A149 c150 W151 hS152
  have hS153 : St ⟨w, [], φ⟩ φ131 [.row (some ⟨b142, 0, none⟩) 1 46 2 (List.flatMap encT_api_Span [(⟨x113, w64 (x113 + x127)⟩ : T_api_Span)]), .blk b10 126 [.slice A137 x128.bytes.length c138, .int .i64 x128.next, .int .u32 x128.state], .blk b26 126 [.slice A27 x17.bytes.length c28, .int .i64 x17.next, .int .u32 x17.state], .row A149 c150 46 2 (List.flatMap encT_api_Span x146)] W151 := hS152
  refine OKS.ra rfl rfl rfl rfl rfl rfl ?_
  refine OKS.e ?_
  refine blockQ_n ?_
  refine thenQ_n ?_
  refine CK.reg (ks := []) (.fl 0 (.fl 1 (.nil))) rfl ?_
  refine OKS.r rfl rfl rfl rfl (fun _ => Runs.to (Runs.addw rfl fi102 rfl) (congrArg (Value.int .i64) hi112.out)) ?_
  refine OKS.rm rfl rfl rfl rfl rfl rfl ?_
  refine OKS.e ?_
  cases hm148
  exact thenQ_n ⟨rfl, ⟨φ131, A137, c138, A149, c150, rfl, f106, f107, rfl, f109, ((le104.trans le121).trans le135), (hS153.pick [1, 2, 3] _ (by decide) rfl), h139⟩⟩
 ·rintro σ162 W163 ⟨φ178, A174, c175, A176, c177, fi165, f181, f182, f183, f184, le179, hS180, h185⟩
  have c186 : Hid (¬ ((↑((x33 : Int) - 0).toNat : Int) < x33)) := Hid.mk (lp_end0)
  refine CK.seq ?_
  refine CK.reg (ks := []) (.fl 0 (.nil)) rfl ?_
  refine OKS.r rfl rfl rfl rfl (fun _ => Runs.lss rfl fi165 f184) ?_
  refine OKS.e ?_
  refine thenQ_n ?_
  refine CK.seq ?_
  refine CK.condF (decF c186.out) ?_
  refine CK.exit ?_
  refine thenQ_e ?_
  refine thenQ_e ?_
  refine blockQ_h ?_
  refine thenQ_n ?_
  refine CK.seq ?_
  refine CK.reg (ks := []) (.fl 0 (.fx 1 (.fl 2 (.fl 3 (.fl 4 (.fl 5 (.fl 6 (.nil)))))) .stop)) rfl ?_
  refine OKS.rm rfl rfl rfl rfl rfl f183 ?_
  have q := hS180.freezeR (k := 2) (n := y93.length) rfl (flatMap_len (f := encT_api_Span) (sz := 2) (fun _ => rfl) y93) (by decide)
  obtain ⟨φ187, le188, hs189, hS190⟩ := q
  have hS191 : St ⟨w, [], φ⟩ φ187 [.blk b10 126 [.slice A174 y90.length c175, .int .i64 y91, .int .u32 y92], .blk b26 126 [.slice A27 x17.bytes.length c28, .int .i64 x17.next, .int .u32 x17.state]] W163 := hS190
  have q := bnd hm86
  obtain ⟨⟨x192, x193⟩, h194, hm195⟩ := q
  try dsimp only at hm195
  refine OKS.callH 0 rfl rfl rfl rfl (Enters.mk rfl rfl Tryz.call18 (mapcons rfl mapnil) rfl) hS191 (fun hs => w_relay_Chances y93 A176 c177 W163 φ187 hs hs189 h194) (.inr rfl) ?_
  rintro φ196 L197 v198 W199 le200 hS201 ⟨A202, c203, rfl, rfl⟩
  have hS205 : St ⟨w, [], φ⟩ φ196 [.row A202 c203 46 2 (List.flatMap encT_api_Span x192), .blk b10 126 [.slice A174 y90.length c175, .int .i64 y91, .int .u32 y92], .blk b26 126 [.slice A27 x17.bytes.length c28, .int .i64 x17.next, .int .u32 x17.state]] W199 := hS201
  refine OKS.rm rfl rfl rfl rfl rfl rfl ?_
  refine OKS.r rfl rfl rfl rfl (fun _ => Runs.ext rfl rfl (v := .slice A202 x192.length c203) rfl) ?_
  refine OKS.r rfl rfl rfl rfl (fun _ => Runs.ext rfl rfl (v := .int .i64 x193) rfl) ?_
  refine OKS.ra rfl rfl rfl rfl rfl rfl ?_
  refine OKS.ra rfl rfl rfl rfl rfl rfl ?_
  refine OKS.e ?_
  refine thenQ_n ?_
  refine CK.seq ?_
  refine CK.seq ?_
  refine CK.reg (ks := []) (.fl 0 (.fl 1 (.fl 2 (.fl 3 (.fl 4 (.fl 5 (.fl 6 (.fl 7 (.fl 8 (.nil)))))))))) rfl ?_
  refine OKS.rm rfl rfl rfl rfl rfl rfl ?_
  refine OKS.r rfl rfl rfl rfl (fun _ => Runs.neq rfl rfl rfl) ?_
  refine OKS.rm rfl rfl rfl rfl rfl rfl ?_
  by_cases c206 : x193 = 0
  ·have hm207 := hm195; rw [if_pos c206] at hm207; replace c206 := Hid.mk c206
   refine OKS.rm rfl rfl rfl (wantedY rfl rfl (decF (fun h => h c206.out))) rfl rfl ?_
   refine OKS.r rfl rfl rfl (wantedY rfl rfl (decF (fun h => h c206.out))) (fun _ => Runs.len rfl rfl Tryz.runUnderlying43) ?_
   refine OKS.rm rfl rfl rfl (wantedY rfl rfl (decF (fun h => h c206.out))) rfl f183 ?_
   refine OKS.r rfl rfl rfl (wantedY rfl rfl (decF (fun h => h c206.out))) (fun _ => Runs.len rfl rfl Tryz.runUnderlying43) ?_
   refine OKS.r rfl rfl rfl (wantedY rfl rfl (decF (fun h => h c206.out))) (fun _ => Runs.neq rfl rfl rfl) ?_
   refine OKS.r rfl rfl rfl rfl (fun _ => Runs.pickF rfl (decF (fun h => h c206.out)) rfl) ?_
   refine OKS.e ?_
   refine thenQ_n ?_
   by_cases c208 : (↑x192.length : Int) = (↑y93.length : Int)
   ·have hm209 := hm207; rw [if_pos c208] at hm209; replace c208 := Hid.mk c208
    refine CK.condF (decF (fun h => h c208.out)) ?_
    refine CK.skip ?_
    refine thenQ_n ?_
    refine CK.seq ?_
    refine CK.reg (ks := []) (.fl 0 (.nil)) rfl ?_
    refine OKS.ra rfl rfl rfl rfl rfl rfl ?_
    refine OKS.e ?_
    refine thenQ_n ?_
    refine CK.seq ?_
    refine CK.reg (ks := []) (.fl 0 (.nil)) rfl ?_
    refine OKS.ra rfl rfl rfl rfl rfl rfl ?_
    refine OKS.e ?_
    refine thenQ_n ?_
    refine CK.seq ?_
    refine CK.seq ?_
    refine CK.reg (ks := []) (.fl 0 (.fl 1 (.fl 2 (.nil)))) rfl ?_
    refine OKS.rm rfl rfl rfl rfl rfl f183 ?_
    refine OKS.r rfl rfl rfl rfl (fun _ => Runs.len rfl rfl Tryz.runUnderlying43) ?_
    refine OKS.rm rfl rfl rfl rfl rfl rfl ?_
    refine OKS.e ?_
    refine thenQ_n ?_
    refine CK.block ?_
    have q := bnd hm209
    obtain ⟨⟨y252, y253, y254, y255⟩, hf249, hm248⟩ := q
    try dsimp only at hm248
    have q := forR'_le hf249
    obtain ⟨hle250, hf251⟩ := q
    replace hle250 := Hid.mk hle250
    refine CK.forN' (fun k247 (l238, x241, x242, l243) σ_ w_ => ∃ (φ_ : PHeap) (A239 : Option Addr) (c240 : Nat) (A244 : Option Addr) (c245 : Nat), σ_ 56 = .int .i64 (↑k247 : Int) ∧ σ_ 6 = .pointer (some ⟨b26, 0, none⟩) ∧ σ_ 7 = .slice A176 y93.length c177 ∧ σ_ 9 = .slice A202 x192.length c203 ∧ σ_ 11 = .func (.func 23) #[] #[] ∧ σ_ 12 = .slice A244 l243.length c245 ∧ σ_ 54 = .slice A176 y93.length c177 ∧ σ_ 55 = .int .i64 (↑y93.length : Int) ∧ PHeap.Le φ196 φ_ ∧ St ⟨w, [], φ⟩ φ_ [.blk b10 126 [.slice A174 y90.length c175, .int .i64 y91, .int .u32 y92], .blk b26 126 [.slice A239 l238.length c240, .int .i64 x241, .int .u32 x242], .row A202 c203 46 2 (List.flatMap encT_api_Span x192), .row A244 c245 3 1 (List.flatMap encI l243)] w_ ∧ Sl φ_ 1 A239 c240 l238.length (List.flatMap encB8 l238)) hf251 ?_ ?_ ?_
    ·have hS256 := hS205.nilrow 3 1
     have h258 := h30.le le42
     have h259 := h258.le le179
     have h260 := h259.le le188
     have h261 := h260.le le200
     exact ⟨φ196, A27, c28, none, 0, rfl, f182, f183, rfl, rfl, rfl, rfl, rfl, (PHeap.Le.refl _), (hS256.pick [2, 3, 1, 0] _ (by decide) rfl), h261⟩
    ·rintro k247 ⟨l238, x241, x242, l243⟩ xx264 σ262 W263 hk267 ⟨φ269, A239, c240, A244, c245, fi268, f272, f273, f274, f275, f276, f277, f278, le270, hS271, h279⟩ hx265
     try dsimp only at hx265
     have c280 : Hid ((↑k247 : Int) < (↑y93.length : Int)) := Hid.mk (lp_lt0 hk267)
     replace hk267 := Hid.mk hk267
     have hi281 : Hid (w64 ((↑k247 : Int) + 1) = (↑(k247 + 1) : Int)) := Hid.mk (by have h1 := hle250.out; have h2 := c280.out; rw [w64_in] <;> omega)
     refine CK.seq ?_
     refine CK.reg (ks := []) (.fl 0 (.nil)) rfl ?_
     refine OKS.r rfl rfl rfl rfl (fun _ => Runs.lss rfl fi268 f278) ?_
     refine OKS.e ?_
     refine thenQ_n ?_
     refine CK.seq ?_
     refine CK.condT (decT c280.out) ?_
     refine CK.skip ?_
     refine thenQ_n ?_
     refine CK.seq ?_
     refine CK.block ?_
     refine CK.seq ?_
     refine CK.reg (ks := []) (.fl 0 (.fl 1 (.fx 2 (.fx 3 (.nil) .stop) .stop))) rfl ?_
     have q := bnd hx265
     obtain ⟨x282, h283, hm284⟩ := q
     have h285 := hs189.le le200
     have h286 := h285.le le270
     have q := h286.el (fun _ => rfl) (idx_get h283)
     obtain ⟨b287, off288, hA289, hC290⟩ := q
     refine OKS.r rfl rfl rfl rfl (fun _ => Runs.iaN rfl f277 hA289 fi268 Tryz.runUnderlying43 Tryz.sizeOf46 (idx_lt h283)) ?_
     refine OKS.m rfl rfl rfl rfl (hS271.ldCA (f := 0) hC290 rfl rfl Tryz.isAgg46 Tryz.sizeOf46 (us := [.int .i64 x282.Lo, .int .i64 x282.Hi]) rfl rfl) rfl ?_
     refine OKS.alloc (cs := [.int .i64 0, .int .i64 0]) rfl rfl rfl rfl rfl Tryz.zeroValue46 rfl hS271 ?_
     intro W291 b292 hS293
     refine OKS.st (j := 0) (vs := [.int .i64 x282.Lo, .int .i64 x282.Hi]) rfl rfl rfl rfl hS293 rfl rfl rfl rfl Tryz.sizeOf46 (Nat.le_of_ble_eq_true rfl) rfl rfl rfl ?_
     intro W295 hS296
     have hS297 : St ⟨w, [], φ⟩ φ269 [.blk b292 46 [.int .i64 x282.Lo, .int .i64 x282.Hi], .blk b10 126 [.slice A174 y90.length c175, .int .i64 y91, .int .u32 y92], .blk b26 126 [.slice A239 l238.length c240, .int .i64 x241, .int .u32 x242], .row A202 c203 46 2 (List.flatMap encT_api_Span x192), .row A244 c245 3 1 (List.flatMap encI l243)] W295 := hS296
     refine OKS.e ?_
     refine thenQ_n ?_
     refine CK.reg (ks := []) (.fl 0 (.fl 1 (.fl 2 (.fl 3 (.fl 4 (.fl 5 (.fx 6 (.fx 7 (.fx 8 (.fl 9 (.nil)) .stop) .stop) .stop))))))) rfl ?_
     refine OKS.rm rfl rfl rfl rfl rfl f276 ?_
     refine OKS.rm rfl rfl rfl rfl rfl f272 ?_
     refine OKS.r rfl rfl rfl rfl (fun _ => Runs.fa rfl rfl Tryz.runUnderlying46 rfl Tryz.sizeOf3) ?_
     refine OKS.m rfl rfl rfl rfl (hS297.ldB (j := 0) rfl rfl rfl Tryz.isAgg3 (v := .int .i64 x282.Lo) rfl) rfl ?_
     refine OKS.r rfl rfl rfl rfl (fun _ => Runs.fa rfl rfl Tryz.runUnderlying46 rfl Tryz.sizeOf3) ?_
     refine OKS.m rfl rfl rfl rfl (hS297.ldB (j := 0) rfl rfl rfl Tryz.isAgg3 (v := .int .i64 x282.Hi) rfl) rfl ?_
     have q := bnd hm284
     obtain ⟨⟨x298, x299⟩, h300, hm301⟩ := q
     try dsimp only at hm301
     have hS302 : St ⟨w, [], φ⟩ φ269 [.blk b26 126 [.slice A239 l238.length c240, .int .i64 x241, .int .u32 x242], .blk b292 46 [.int .i64 x282.Lo, .int .i64 x282.Hi], .blk b10 126 [.slice A174 y90.length c175, .int .i64 y91, .int .u32 y92], .row A202 c203 46 2 (List.flatMap encT_api_Span x192), .row A244 c245 3 1 (List.flatMap encI l243)] W295 := hS297.pick [2, 0, 1, 3, 4] _ (by decide) rfl
     refine OKS.callH 1 rfl rfl rfl rfl (Enters.mk rfl rfl Tryz.call24 (mapcons rfl (mapcons rfl (mapcons rfl mapnil))) rfl) hS302 (fun hs => w_klisterkit_Deck_Between (⟨l238, x241, x242⟩ : T_klisterkit_Deck) b26 A239 c240 x282.Lo x282.Hi W295 φ269 hs h279 h300) (.inl rfl) ?_
     rintro φ303 L304 v305 W306 le307 hS308 ⟨A309, c310, rfl, rfl, h311⟩
     have hS312 : St ⟨w, [], φ⟩ φ303 [.blk b26 126 [.slice A309 x299.bytes.length c310, .int .i64 x299.next, .int .u32 x299.state], .blk b292 46 [.int .i64 x282.Lo, .int .i64 x282.Hi], .blk b10 126 [.slice A174 y90.length c175, .int .i64 y91, .int .u32 y92], .row A202 c203 46 2 (List.flatMap encT_api_Span x192), .row A244 c245 3 1 (List.flatMap encI l243)] W306 := hS308
     refine OKS.buildSlice (pv := [(0, .int .i64 x298)]) (zs := [.int .i64 0]) (cs := [.int .i64 x298]) rfl rfl rfl rfl rfl (mapcons2 rfl mapnil2) Tryz.runUnderlying22 Tryz.sizeOf3 Tryz.zeroValue3 rfl rfl rfl rfl rfl hS312 ?_
     intro W313 b314 hS315
     have hS317 : St ⟨w, [], φ⟩ φ303 [.row (some ⟨b314, 0, none⟩) 1 3 1 (List.flatMap encI [x298]), .blk b26 126 [.slice A309 x299.bytes.length c310, .int .i64 x299.next, .int .u32 x299.state], .blk b292 46 [.int .i64 x282.Lo, .int .i64 x282.Hi], .blk b10 126 [.slice A174 y90.length c175, .int .i64 y91, .int .u32 y92], .row A202 c203 46 2 (List.flatMap encT_api_Span x192), .row A244 c245 3 1 (List.flatMap encI l243)] W313 := hS315
     have q := bnd hm301
     obtain ⟨x318, h319, hm320⟩ := q
     refine OKS.append (j := 5) (enc := encI) (xs := l243) (ys := [x298]) (zs := x318) rfl rfl rfl rfl rfl Tryz.underlying22 info3 rfl rfl rfl rfl rfl rfl hS317 rfl rfl rfl (hS317.srcR (j := 0) rfl (by decide) (flatMap_len (f := encI) (sz := 1) (fun _ => rfl) [x298])) (fun _ => rfl) (fun _ => rfl) h319 rfl ?_
     intro A321 c322 W323 hS324
     have hS325 : St ⟨w, [], φ⟩ φ303 [.row (some ⟨b314, 0, none⟩) 1 3 1 (List.flatMap encI [x298]), .blk b26 126 [.slice A309 x299.bytes.length c310, .int .i64 x299.next, .int .u32 x299.state], .blk b292 46 [.int .i64 x282.Lo, .int .i64 x282.Hi], .blk b10 126 [.slice A174 y90.length c175, .int .i64 y91, .int .u32 y92], .row A202 c203 46 2 (List.flatMap encT_api_Span x192), .row A321 c322 3 1 (List.flatMap encI x318)] W323 := hS324
     refine OKS.ra rfl rfl rfl rfl rfl rfl ?_
     refine OKS.e ?_
     refine blockQ_n ?_
     refine thenQ_n ?_
     refine CK.reg (ks := []) (.fl 0 (.fl 1 (.nil))) rfl ?_
     refine OKS.r rfl rfl rfl rfl (fun _ => Runs.to (Runs.addw rfl fi268 rfl) (congrArg (Value.int .i64) hi281.out)) ?_
     refine OKS.rm rfl rfl rfl rfl rfl rfl ?_
     refine OKS.e ?_
     cases hm320
     exact thenQ_n ⟨rfl, ⟨φ303, A309, c310, A321, c322, rfl, f272, f273, f274, f275, rfl, f277, f278, (le270.trans le307), (hS325.pick [3, 1, 4, 5] _ (by decide) rfl), h311⟩⟩
    ·rintro σ334 W335 ⟨φ350, A346, c347, A348, c349, fi337, f353, f354, f355, f356, f357, f358, f359, le351, hS352, h360⟩
     have c361 : Hid (¬ ((↑(((↑y93.length : Int) : Int) - 0).toNat : Int) < (↑y93.length : Int))) := Hid.mk (lp_end0)
     refine CK.seq ?_
     refine CK.reg (ks := []) (.fl 0 (.nil)) rfl ?_
     refine OKS.r rfl rfl rfl rfl (fun _ => Runs.lss rfl fi337 f359) ?_
     refine OKS.e ?_
     refine thenQ_n ?_
     refine CK.seq ?_
     refine CK.condF (decF c361.out) ?_
     refine CK.exit ?_
     refine thenQ_e ?_
     refine thenQ_e ?_
     refine blockQ_h ?_
     refine thenQ_n ?_
     refine CK.seq ?_
     refine CK.seq ?_
     refine CK.reg (ks := []) (.fl 0 (.fl 1 (.fl 2 (.nil)))) rfl ?_
     refine OKS.rm rfl rfl rfl rfl rfl f354 ?_
     refine OKS.r rfl rfl rfl rfl (fun _ => Runs.len rfl rfl Tryz.runUnderlying43) ?_
     refine OKS.rm rfl rfl rfl rfl rfl rfl ?_
     refine OKS.e ?_
     refine thenQ_n ?_
     refine CK.block ?_
     have q := hS352.freezeR (k := 3) (n := y255.length) rfl (flatMap_len (f := encI) (sz := 1) (fun _ => rfl) y255) (by decide)
     obtain ⟨φ363, le364, hs365, hS366⟩ := q
     have hS367 : St ⟨w, [], φ⟩ φ363 [.blk b10 126 [.slice A174 y90.length c175, .int .i64 y91, .int .u32 y92], .blk b26 126 [.slice A346 y252.length c347, .int .i64 y253, .int .u32 y254], .row A202 c203 46 2 (List.flatMap encT_api_Span x192)] W335 := hS366
     have q := jn_some hm248
     obtain ⟨r371, hX372⟩ := q
     have q := forR_le hX372
     obtain ⟨hle373, hf374⟩ := q
     replace hle373 := Hid.mk hle373
     refine CK.forN (fun k370 _ σ_ w_ => ∃ (φ_ : PHeap), σ_ 72 = .int .i64 (↑k370 : Int) ∧ σ_ 7 = .slice A176 y93.length c177 ∧ σ_ 9 = .slice A202 x192.length c203 ∧ σ_ 11 = .func (.func 23) #[] #[] ∧ σ_ 12 = .slice A348 y255.length c349 ∧ σ_ 71 = .int .i64 (↑y93.length : Int) ∧ PHeap.Le φ363 φ_ ∧ St ⟨w, [], φ⟩ φ_ [.blk b10 126 [.slice A174 y90.length c175, .int .i64 y91, .int .u32 y92], .blk b26 126 [.slice A346 y252.length c347, .int .i64 y253, .int .u32 y254], .row A202 c203 46 2 (List.flatMap encT_api_Span x192)] w_) hf374 ?_ ?_ ?_
     ·exact ⟨φ363, rfl, f354, f355, f356, f357, rfl, (PHeap.Le.refl _), hS367⟩
     ·rintro k370 ⟨⟩ xx377 σ375 W376 hk380 ⟨φ382, fi381, f385, f386, f387, f388, f389, le383, hS384⟩ hx378 hb379
      try dsimp only at hx378
      have c390 : Hid ((↑k370 : Int) < (↑y93.length : Int)) := Hid.mk (lp_lt0 hk380)
      replace hk380 := Hid.mk hk380
      have hi391 : Hid (w64 ((↑k370 : Int) + 1) = (↑(k370 + 1) : Int)) := Hid.mk (by have h1 := hle373.out; have h2 := c390.out; rw [w64_in] <;> omega)
      refine CK.seq ?_
      refine CK.reg (ks := []) (.fl 0 (.nil)) rfl ?_
      refine OKS.r rfl rfl rfl rfl (fun _ => Runs.lss rfl fi381 f389) ?_
      refine OKS.e ?_
      refine thenQ_n ?_
      refine CK.seq ?_
      refine CK.condT (decT c390.out) ?_
      refine CK.skip ?_
      refine thenQ_n ?_
      refine CK.seq ?_
      refine CK.block ?_
      refine CK.seq ?_
      refine CK.reg (ks := []) (.fl 0 (.fl 1 (.nil))) rfl ?_
      refine OKS.rm rfl rfl rfl rfl rfl fi381 ?_
      refine OKS.ra rfl rfl rfl rfl rfl rfl ?_
      refine OKS.e ?_
      refine thenQ_n ?_
      refine CK.seq ?_
      refine CK.reg (ks := []) (.fl 0 (.fl 1 (.nil))) rfl ?_
      refine OKS.ra rfl rfl rfl rfl rfl rfl ?_
      refine OKS.ra rfl rfl rfl rfl rfl rfl ?_
      refine OKS.e ?_
      refine thenQ_n ?_
      refine CK.seq ?_
      refine CK.seq ?_
      refine CK.reg (ks := []) (.fl 0 (.fl 1 (.fl 2 (.nil)))) rfl ?_
      refine OKS.rm rfl rfl rfl rfl rfl f385 ?_
      refine OKS.r rfl rfl rfl rfl (fun _ => Runs.len rfl rfl Tryz.runUnderlying43) ?_
      refine OKS.rm rfl rfl rfl rfl rfl rfl ?_
      refine OKS.e ?_
      refine thenQ_n ?_
      refine CK.block ?_
      have q := bnd hx378
      obtain ⟨⟨y429, y430⟩, hf426, hm425⟩ := q
      try dsimp only at hm425
      have q := forR'_le hf426
      obtain ⟨hle427, hf428⟩ := q
      replace hle427 := Hid.mk hle427
      refine CK.forN' (fun k424 (l416, l420) σ_ w_ => ∃ (φ_ : PHeap) (A417 : Option Addr) (c418 : Nat) (A421 : Option Addr) (c422 : Nat), σ_ 77 = .int .i64 (↑k424 : Int) ∧ σ_ 7 = .slice A176 y93.length c177 ∧ σ_ 9 = .slice A202 x192.length c203 ∧ σ_ 11 = .func (.func 23) #[] #[] ∧ σ_ 12 = .slice A348 y255.length c349 ∧ σ_ 15 = .int .i64 (↑k370 : Int) ∧ σ_ 16 = .slice A417 l416.length c418 ∧ σ_ 17 = .slice A421 l420.length c422 ∧ σ_ 71 = .int .i64 (↑y93.length : Int) ∧ σ_ 72 = .int .i64 (↑k370 : Int) ∧ σ_ 75 = .slice A176 y93.length c177 ∧ σ_ 76 = .int .i64 (↑y93.length : Int) ∧ PHeap.Le φ382 φ_ ∧ St ⟨w, [], φ⟩ φ_ [.blk b10 126 [.slice A174 y90.length c175, .int .i64 y91, .int .u32 y92], .blk b26 126 [.slice A346 y252.length c347, .int .i64 y253, .int .u32 y254], .row A202 c203 46 2 (List.flatMap encT_api_Span x192), .row A417 c418 3 1 (List.flatMap encI l416), .row A421 c422 3 1 (List.flatMap encI l420)] w_) hf428 ?_ ?_ ?_
      ·have hS431 := hS384.nilrow 3 1
       have hS433 := hS431.nilrow 3 1
       exact ⟨φ382, none, 0, none, 0, rfl, f385, f386, f387, f388, rfl, rfl, rfl, f389, fi381, rfl, rfl, (PHeap.Le.refl _), (hS433.pick [2, 3, 4, 1, 0] _ (by decide) rfl)⟩
      ·rintro k424 ⟨l416, l420⟩ xx437 σ435 W436 hk440 ⟨φ442, A417, c418, A421, c422, fi441, f445, f446, f447, f448, f449, f450, f451, f452, f453, f454, f455, le443, hS444⟩ hx438
       try dsimp only at hx438
       have c456 : Hid ((↑k424 : Int) < (↑y93.length : Int)) := Hid.mk (lp_lt0 hk440)
       replace hk440 := Hid.mk hk440
       have hi457 : Hid (w64 ((↑k424 : Int) + 1) = (↑(k424 + 1) : Int)) := Hid.mk (by have h1 := hle427.out; have h2 := c456.out; rw [w64_in] <;> omega)
       refine CK.seq ?_
       refine CK.reg (ks := []) (.fl 0 (.nil)) rfl ?_
       refine OKS.r rfl rfl rfl rfl (fun _ => Runs.lss rfl fi441 f455) ?_
       refine OKS.e ?_
       refine thenQ_n ?_
       refine CK.seq ?_
       refine CK.condT (decT c456.out) ?_
       refine CK.skip ?_
       refine thenQ_n ?_
       refine CK.seq ?_
       refine CK.block ?_
       refine CK.seq ?_
       refine CK.reg (ks := []) (.fl 0 (.fl 1 (.fl 2 (.fx 3 (.fl 4 (.fx 5 (.nil) .stop)) .stop)))) rfl ?_
       refine OKS.rm rfl rfl rfl rfl rfl fi441 ?_
       have q := bnd hx438
       obtain ⟨x458, h459, hm460⟩ := q
       have h461 := hs189.le le200
       have h462 := h461.le le351
       have h463 := h462.le le364
       have h464 := h463.le le383
       have h465 := h464.le le443
       have q := h465.el (fun _ => rfl) (idx_get h459)
       obtain ⟨b466, off467, hA468, hC469⟩ := q
       refine OKS.r rfl rfl rfl rfl (fun _ => Runs.iaN rfl f454 hA468 fi441 Tryz.runUnderlying43 Tryz.sizeOf46 (idx_lt h459)) ?_
       refine OKS.m rfl rfl rfl rfl (hS444.ldCA (f := 0) hC469 rfl rfl Tryz.isAgg46 Tryz.sizeOf46 (us := [.int .i64 x458.Lo, .int .i64 x458.Hi]) rfl rfl) rfl ?_
       refine OKS.alloc (cs := [.int .i64 0, .int .i64 0]) rfl rfl rfl rfl rfl Tryz.zeroValue46 rfl hS444 ?_
       intro W470 b471 hS472
       refine OKS.ra rfl rfl rfl rfl rfl rfl ?_
       refine OKS.st (j := 0) (vs := [.int .i64 x458.Lo, .int .i64 x458.Hi]) rfl rfl rfl rfl hS472 rfl rfl rfl rfl Tryz.sizeOf46 (Nat.le_of_ble_eq_true rfl) rfl rfl rfl ?_
       intro W474 hS475
       have hS476 : St ⟨w, [], φ⟩ φ442 [.blk b471 46 [.int .i64 x458.Lo, .int .i64 x458.Hi], .blk b10 126 [.slice A174 y90.length c175, .int .i64 y91, .int .u32 y92], .blk b26 126 [.slice A346 y252.length c347, .int .i64 y253, .int .u32 y254], .row A202 c203 46 2 (List.flatMap encT_api_Span x192), .row A417 c418 3 1 (List.flatMap encI l416), .row A421 c422 3 1 (List.flatMap encI l420)] W474 := hS475
       refine OKS.e ?_
       refine thenQ_n ?_
       have q := bnd hm460
       obtain ⟨⟨l477, l480⟩, hx484, hm485⟩ := q
       try dsimp only at hm485
       refine CK.cut (fun σ_ w_ => ∃ (φ_ : PHeap) (A478 : Option Addr) (c479 : Nat) (A481 : Option Addr) (c482 : Nat), σ_ 7 = .slice A176 y93.length c177 ∧ σ_ 9 = .slice A202 x192.length c203 ∧ σ_ 11 = .func (.func 23) #[] #[] ∧ σ_ 12 = .slice A348 y255.length c349 ∧ σ_ 15 = .int .i64 (↑k370 : Int) ∧ σ_ 16 = .slice A478 l477.length c479 ∧ σ_ 17 = .slice A481 l480.length c482 ∧ σ_ 18 = .int .i64 (↑k424 : Int) ∧ σ_ 19 = .pointer (some ⟨b471, 0, none⟩) ∧ σ_ 71 = .int .i64 (↑y93.length : Int) ∧ σ_ 72 = .int .i64 (↑k370 : Int) ∧ σ_ 75 = .slice A176 y93.length c177 ∧ σ_ 76 = .int .i64 (↑y93.length : Int) ∧ σ_ 77 = .int .i64 (↑k424 : Int) ∧ PHeap.Le φ442 φ_ ∧ St ⟨w, [], φ⟩ φ_ [.blk b471 46 [.int .i64 x458.Lo, .int .i64 x458.Hi], .blk b10 126 [.slice A174 y90.length c175, .int .i64 y91, .int .u32 y92], .blk b26 126 [.slice A346 y252.length c347, .int .i64 y253, .int .u32 y254], .row A202 c203 46 2 (List.flatMap encT_api_Span x192), .row A478 c479 3 1 (List.flatMap encI l477), .row A481 c482 3 1 (List.flatMap encI l480)] w_) ?_ ?_
       ·have q := bnd hx484
        obtain ⟨x491, h492, hm512⟩ := q
        have q := bnd hm512
        obtain ⟨x504, h505, hm513⟩ := q
        refine CK.anyOrd Tryz.mixed [3, 3, 1, 2, 0, 3, 3, 2, 2, 0, 3, 3] (.fl 0 (.fl 1 (.fl 2 (.fl 5 (.fl 6 (.fx 3 (.fx 4 (.fx 7 (.fx 8 (.fx 9 (.fl 10 (.fl 11 (.nil))) (.stop)) (.stop)) (.stop)) (.fx 7 (.fx 4 (.fx 8 (.fx 9 (.fl 10 (.fl 11 (.nil))) (.stop)) (.stop)) (.fx 8 (.fx 4 (.fx 9 (.fl 10 (.fl 11 (.nil))) (.stop)) (.stop)) (.stop))) (.stop))) (.fx 7 (.fx 3 (.fx 4 (.fx 8 (.fx 9 (.fl 10 (.fl 11 (.nil))) (.stop)) (.stop)) (.fx 8 (.fx 4 (.fx 9 (.fl 10 (.fl 11 (.nil))) (.stop)) (.stop)) (.stop))) (.fx 8 (.fx 3 (.fx 4 (.fx 9 (.fl 10 (.fl 11 (.nil))) (.stop)) (.stop)) (.stop)) (.stop))) (.stop)))))))) (by kernel_rfl) ?_
        have hS514 := hS476.drew
        generalize hw_W515 : ({ W474 with drawn := W474.drawn + 1 } : World) = W515 at hS514 ⊢
        refine OKS.rm rfl rfl rfl rfl rfl f450 ?_
        refine OKS.r rfl rfl rfl rfl (fun _ => Runs.fa rfl rfl Tryz.runUnderlying46 rfl Tryz.sizeOf3) ?_
        refine OKS.m rfl rfl rfl rfl (hS514.ldB (j := 0) rfl rfl rfl Tryz.isAgg3 (v := .int .i64 x458.Hi) rfl) rfl ?_
        refine OKS.rm rfl rfl rfl rfl rfl f451 ?_
        refine OKS.r rfl rfl rfl rfl (fun _ => Runs.fa rfl rfl Tryz.runUnderlying46 rfl Tryz.sizeOf3) ?_
        refine OKS.both ?_ ?_
        ·refine OKS.buildSlice (pv := [(0, .int .i64 x458.Hi)]) (zs := [.int .i64 0]) (cs := [.int .i64 x458.Hi]) rfl rfl rfl rfl rfl (mapcons2 rfl mapnil2) Tryz.runUnderlying22 Tryz.sizeOf3 Tryz.zeroValue3 rfl rfl rfl rfl rfl hS514 ?_
         intro W516 b517 hS518
         have hS520 : St ⟨w, [], φ⟩ φ442 [.row (some ⟨b517, 0, none⟩) 1 3 1 (List.flatMap encI [x458.Hi]), .blk b471 46 [.int .i64 x458.Lo, .int .i64 x458.Hi], .blk b10 126 [.slice A174 y90.length c175, .int .i64 y91, .int .u32 y92], .blk b26 126 [.slice A346 y252.length c347, .int .i64 y253, .int .u32 y254], .row A202 c203 46 2 (List.flatMap encT_api_Span x192), .row A417 c418 3 1 (List.flatMap encI l416), .row A421 c422 3 1 (List.flatMap encI l420)] W516 := hS518
         refine OKS.both ?_ ?_
         ·refine OKS.append (j := 5) (enc := encI) (xs := l416) (ys := [x458.Hi]) (zs := x491) rfl rfl rfl rfl rfl Tryz.underlying22 info3 rfl rfl rfl rfl rfl rfl hS520 rfl rfl rfl (hS520.srcR (j := 0) rfl (by decide) (flatMap_len (f := encI) (sz := 1) (fun _ => rfl) [x458.Hi])) (fun _ => rfl) (fun _ => rfl) h492 rfl ?_
          intro A521 c522 W523 hS524
          have hS525 : St ⟨w, [], φ⟩ φ442 [.row (some ⟨b517, 0, none⟩) 1 3 1 (List.flatMap encI [x458.Hi]), .blk b471 46 [.int .i64 x458.Lo, .int .i64 x458.Hi], .blk b10 126 [.slice A174 y90.length c175, .int .i64 y91, .int .u32 y92], .blk b26 126 [.slice A346 y252.length c347, .int .i64 y253, .int .u32 y254], .row A202 c203 46 2 (List.flatMap encT_api_Span x192), .row A521 c522 3 1 (List.flatMap encI x491), .row A421 c422 3 1 (List.flatMap encI l420)] W523 := hS524
          refine OKS.mx2 rfl rfl rfl rfl (hS525.ldB (j := 1) rfl rfl rfl Tryz.isAgg3 (v := .int .i64 x458.Lo) rfl) ?_
          refine OKS.buildSlice (pv := [(0, .int .i64 x458.Lo)]) (zs := [.int .i64 0]) (cs := [.int .i64 x458.Lo]) rfl rfl rfl rfl rfl (mapcons2 rfl mapnil2) Tryz.runUnderlying22 Tryz.sizeOf3 Tryz.zeroValue3 rfl rfl rfl rfl rfl hS525 ?_
          intro W526 b527 hS528
          have hS530 : St ⟨w, [], φ⟩ φ442 [.row (some ⟨b527, 0, none⟩) 1 3 1 (List.flatMap encI [x458.Lo]), .row (some ⟨b517, 0, none⟩) 1 3 1 (List.flatMap encI [x458.Hi]), .blk b471 46 [.int .i64 x458.Lo, .int .i64 x458.Hi], .blk b10 126 [.slice A174 y90.length c175, .int .i64 y91, .int .u32 y92], .blk b26 126 [.slice A346 y252.length c347, .int .i64 y253, .int .u32 y254], .row A202 c203 46 2 (List.flatMap encT_api_Span x192), .row A521 c522 3 1 (List.flatMap encI x491), .row A421 c422 3 1 (List.flatMap encI l420)] W526 := hS528
          refine OKS.append (j := 7) (enc := encI) (xs := l420) (ys := [x458.Lo]) (zs := x504) rfl rfl rfl rfl rfl Tryz.underlying22 info3 rfl rfl rfl rfl rfl rfl hS530 rfl rfl rfl (hS530.srcR (j := 0) rfl (by decide) (flatMap_len (f := encI) (sz := 1) (fun _ => rfl) [x458.Lo])) (fun _ => rfl) (fun _ => rfl) h505 rfl ?_
          intro A531 c532 W533 hS534
          have hS535 : St ⟨w, [], φ⟩ φ442 [.row (some ⟨b527, 0, none⟩) 1 3 1 (List.flatMap encI [x458.Lo]), .row (some ⟨b517, 0, none⟩) 1 3 1 (List.flatMap encI [x458.Hi]), .blk b471 46 [.int .i64 x458.Lo, .int .i64 x458.Hi], .blk b10 126 [.slice A174 y90.length c175, .int .i64 y91, .int .u32 y92], .blk b26 126 [.slice A346 y252.length c347, .int .i64 y253, .int .u32 y254], .row A202 c203 46 2 (List.flatMap encT_api_Span x192), .row A521 c522 3 1 (List.flatMap encI x491), .row A531 c532 3 1 (List.flatMap encI x504)] W533 := hS534
          refine OKS.ra rfl rfl rfl rfl rfl rfl ?_
          refine OKS.ra rfl rfl rfl rfl rfl rfl ?_
          refine OKS.e ?_
          cases hm513
          exact thenQ_n ⟨rfl, ⟨φ442, A521, c522, A531, c532, f445, f446, f447, f448, f449, rfl, rfl, rfl, rfl, f452, f453, f454, f455, fi441, (PHeap.Le.refl _), (hS535.pick [2, 3, 4, 5, 6, 7] _ (by decide) rfl)⟩⟩
         ·refine OKS.mx2 rfl rfl rfl rfl (hS520.ldB (j := 1) rfl rfl rfl Tryz.isAgg3 (v := .int .i64 x458.Lo) rfl) ?_
          refine OKS.both ?_ ?_
          ·refine OKS.append (j := 5) (enc := encI) (xs := l416) (ys := [x458.Hi]) (zs := x491) rfl rfl rfl rfl rfl Tryz.underlying22 info3 rfl rfl rfl rfl rfl rfl hS520 rfl rfl rfl (hS520.srcR (j := 0) rfl (by decide) (flatMap_len (f := encI) (sz := 1) (fun _ => rfl) [x458.Hi])) (fun _ => rfl) (fun _ => rfl) h492 rfl ?_
           intro A542 c543 W544 hS545
           have hS546 : St ⟨w, [], φ⟩ φ442 [.row (some ⟨b517, 0, none⟩) 1 3 1 (List.flatMap encI [x458.Hi]), .blk b471 46 [.int .i64 x458.Lo, .int .i64 x458.Hi], .blk b10 126 [.slice A174 y90.length c175, .int .i64 y91, .int .u32 y92], .blk b26 126 [.slice A346 y252.length c347, .int .i64 y253, .int .u32 y254], .row A202 c203 46 2 (List.flatMap encT_api_Span x192), .row A542 c543 3 1 (List.flatMap encI x491), .row A421 c422 3 1 (List.flatMap encI l420)] W544 := hS545
           refine OKS.buildSlice (pv := [(0, .int .i64 x458.Lo)]) (zs := [.int .i64 0]) (cs := [.int .i64 x458.Lo]) rfl rfl rfl rfl rfl (mapcons2 rfl mapnil2) Tryz.runUnderlying22 Tryz.sizeOf3 Tryz.zeroValue3 rfl rfl rfl rfl rfl hS546 ?_
           intro W547 b548 hS549
           have hS551 : St ⟨w, [], φ⟩ φ442 [.row (some ⟨b548, 0, none⟩) 1 3 1 (List.flatMap encI [x458.Lo]), .row (some ⟨b517, 0, none⟩) 1 3 1 (List.flatMap encI [x458.Hi]), .blk b471 46 [.int .i64 x458.Lo, .int .i64 x458.Hi], .blk b10 126 [.slice A174 y90.length c175, .int .i64 y91, .int .u32 y92], .blk b26 126 [.slice A346 y252.length c347, .int .i64 y253, .int .u32 y254], .row A202 c203 46 2 (List.flatMap encT_api_Span x192), .row A542 c543 3 1 (List.flatMap encI x491), .row A421 c422 3 1 (List.flatMap encI l420)] W547 := hS549
           refine OKS.append (j := 7) (enc := encI) (xs := l420) (ys := [x458.Lo]) (zs := x504) rfl rfl rfl rfl rfl Tryz.underlying22 info3 rfl rfl rfl rfl rfl rfl hS551 rfl rfl rfl (hS551.srcR (j := 0) rfl (by decide) (flatMap_len (f := encI) (sz := 1) (fun _ => rfl) [x458.Lo])) (fun _ => rfl) (fun _ => rfl) h505 rfl ?_
           intro A552 c553 W554 hS555
           have hS556 : St ⟨w, [], φ⟩ φ442 [.row (some ⟨b548, 0, none⟩) 1 3 1 (List.flatMap encI [x458.Lo]), .row (some ⟨b517, 0, none⟩) 1 3 1 (List.flatMap encI [x458.Hi]), .blk b471 46 [.int .i64 x458.Lo, .int .i64 x458.Hi], .blk b10 126 [.slice A174 y90.length c175, .int .i64 y91, .int .u32 y92], .blk b26 126 [.slice A346 y252.length c347, .int .i64 y253, .int .u32 y254], .row A202 c203 46 2 (List.flatMap encT_api_Span x192), .row A542 c543 3 1 (List.flatMap encI x491), .row A552 c553 3 1 (List.flatMap encI x504)] W554 := hS555
           refine OKS.ra rfl rfl rfl rfl rfl rfl ?_
           refine OKS.ra rfl rfl rfl rfl rfl rfl ?_
           refine OKS.e ?_
           cases hm513
           exact thenQ_n ⟨rfl, ⟨φ442, A542, c543, A552, c553, f445, f446, f447, f448, f449, rfl, rfl, rfl, rfl, f452, f453, f454, f455, fi441, (PHeap.Le.refl _), (hS556.pick [2, 3, 4, 5, 6, 7] _ (by decide) rfl)⟩⟩
          ·refine OKS.buildSlice (pv := [(0, .int .i64 x458.Lo)]) (zs := [.int .i64 0]) (cs := [.int .i64 x458.Lo]) rfl rfl rfl rfl rfl (mapcons2 rfl mapnil2) Tryz.runUnderlying22 Tryz.sizeOf3 Tryz.zeroValue3 rfl rfl rfl rfl rfl hS520 ?_
           intro W563 b564 hS565
           have hS567 : St ⟨w, [], φ⟩ φ442 [.row (some ⟨b564, 0, none⟩) 1 3 1 (List.flatMap encI [x458.Lo]), .row (some ⟨b517, 0, none⟩) 1 3 1 (List.flatMap encI [x458.Hi]), .blk b471 46 [.int .i64 x458.Lo, .int .i64 x458.Hi], .blk b10 126 [.slice A174 y90.length c175, .int .i64 y91, .int .u32 y92], .blk b26 126 [.slice A346 y252.length c347, .int .i64 y253, .int .u32 y254], .row A202 c203 46 2 (List.flatMap encT_api_Span x192), .row A417 c418 3 1 (List.flatMap encI l416), .row A421 c422 3 1 (List.flatMap encI l420)] W563 := hS565
           refine OKS.append (j := 6) (enc := encI) (xs := l416) (ys := [x458.Hi]) (zs := x491) rfl rfl rfl rfl rfl Tryz.underlying22 info3 rfl rfl rfl rfl rfl rfl hS567 rfl rfl rfl (hS567.srcR (j := 1) rfl (by decide) (flatMap_len (f := encI) (sz := 1) (fun _ => rfl) [x458.Hi])) (fun _ => rfl) (fun _ => rfl) h492 rfl ?_
           intro A568 c569 W570 hS571
           have hS572 : St ⟨w, [], φ⟩ φ442 [.row (some ⟨b564, 0, none⟩) 1 3 1 (List.flatMap encI [x458.Lo]), .row (some ⟨b517, 0, none⟩) 1 3 1 (List.flatMap encI [x458.Hi]), .blk b471 46 [.int .i64 x458.Lo, .int .i64 x458.Hi], .blk b10 126 [.slice A174 y90.length c175, .int .i64 y91, .int .u32 y92], .blk b26 126 [.slice A346 y252.length c347, .int .i64 y253, .int .u32 y254], .row A202 c203 46 2 (List.flatMap encT_api_Span x192), .row A568 c569 3 1 (List.flatMap encI x491), .row A421 c422 3 1 (List.flatMap encI l420)] W570 := hS571
           refine OKS.append (j := 7) (enc := encI) (xs := l420) (ys := [x458.Lo]) (zs := x504) rfl rfl rfl rfl rfl Tryz.underlying22 info3 rfl rfl rfl rfl rfl rfl hS572 rfl rfl rfl (hS572.srcR (j := 0) rfl (by decide) (flatMap_len (f := encI) (sz := 1) (fun _ => rfl) [x458.Lo])) (fun _ => rfl) (fun _ => rfl) h505 rfl ?_
           intro A573 c574 W575 hS576
           have hS577 : St ⟨w, [], φ⟩ φ442 [.row (some ⟨b564, 0, none⟩) 1 3 1 (List.flatMap encI [x458.Lo]), .row (some ⟨b517, 0, none⟩) 1 3 1 (List.flatMap encI [x458.Hi]), .blk b471 46 [.int .i64 x458.Lo, .int .i64 x458.Hi], .blk b10 126 [.slice A174 y90.length c175, .int .i64 y91, .int .u32 y92], .blk b26 126 [.slice A346 y252.length c347, .int .i64 y253, .int .u32 y254], .row A202 c203 46 2 (List.flatMap encT_api_Span x192), .row A568 c569 3 1 (List.flatMap encI x491), .row A573 c574 3 1 (List.flatMap encI x504)] W575 := hS576
           refine OKS.ra rfl rfl rfl rfl rfl rfl ?_
           refine OKS.ra rfl rfl rfl rfl rfl rfl ?_
           refine OKS.e ?_
           cases hm513
           exact thenQ_n ⟨rfl, ⟨φ442, A568, c569, A573, c574, f445, f446, f447, f448, f449, rfl, rfl, rfl, rfl, f452, f453, f454, f455, fi441, (PHeap.Le.refl _), (hS577.pick [2, 3, 4, 5, 6, 7] _ (by decide) rfl)⟩⟩
        ·refine OKS.mx2 rfl rfl rfl rfl (hS514.ldB (j := 0) rfl rfl rfl Tryz.isAgg3 (v := .int .i64 x458.Lo) rfl) ?_
         refine OKS.both ?_ ?_
         ·refine OKS.buildSlice (pv := [(0, .int .i64 x458.Hi)]) (zs := [.int .i64 0]) (cs := [.int .i64 x458.Hi]) rfl rfl rfl rfl rfl (mapcons2 rfl mapnil2) Tryz.runUnderlying22 Tryz.sizeOf3 Tryz.zeroValue3 rfl rfl rfl rfl rfl hS514 ?_
          intro W584 b585 hS586
          have hS588 : St ⟨w, [], φ⟩ φ442 [.row (some ⟨b585, 0, none⟩) 1 3 1 (List.flatMap encI [x458.Hi]), .blk b471 46 [.int .i64 x458.Lo, .int .i64 x458.Hi], .blk b10 126 [.slice A174 y90.length c175, .int .i64 y91, .int .u32 y92], .blk b26 126 [.slice A346 y252.length c347, .int .i64 y253, .int .u32 y254], .row A202 c203 46 2 (List.flatMap encT_api_Span x192), .row A417 c418 3 1 (List.flatMap encI l416), .row A421 c422 3 1 (List.flatMap encI l420)] W584 := hS586
          refine OKS.both ?_ ?_
          ·refine OKS.append (j := 5) (enc := encI) (xs := l416) (ys := [x458.Hi]) (zs := x491) rfl rfl rfl rfl rfl Tryz.underlying22 info3 rfl rfl rfl rfl rfl rfl hS588 rfl rfl rfl (hS588.srcR (j := 0) rfl (by decide) (flatMap_len (f := encI) (sz := 1) (fun _ => rfl) [x458.Hi])) (fun _ => rfl) (fun _ => rfl) h492 rfl ?_
           intro A589 c590 W591 hS592
           have hS593 : St ⟨w, [], φ⟩ φ442 [.row (some ⟨b585, 0, none⟩) 1 3 1 (List.flatMap encI [x458.Hi]), .blk b471 46 [.int .i64 x458.Lo, .int .i64 x458.Hi], .blk b10 126 [.slice A174 y90.length c175, .int .i64 y91, .int .u32 y92], .blk b26 126 [.slice A346 y252.length c347, .int .i64 y253, .int .u32 y254], .row A202 c203 46 2 (List.flatMap encT_api_Span x192), .row A589 c590 3 1 (List.flatMap encI x491), .row A421 c422 3 1 (List.flatMap encI l420)] W591 := hS592
           refine OKS.buildSlice (pv := [(0, .int .i64 x458.Lo)]) (zs := [.int .i64 0]) (cs := [.int .i64 x458.Lo]) rfl rfl rfl rfl rfl (mapcons2 rfl mapnil2) Tryz.runUnderlying22 Tryz.sizeOf3 Tryz.zeroValue3 rfl rfl rfl rfl rfl hS593 ?_
           intro W594 b595 hS596
           have hS598 : St ⟨w, [], φ⟩ φ442 [.row (some ⟨b595, 0, none⟩) 1 3 1 (List.flatMap encI [x458.Lo]), .row (some ⟨b585, 0, none⟩) 1 3 1 (List.flatMap encI [x458.Hi]), .blk b471 46 [.int .i64 x458.Lo, .int .i64 x458.Hi], .blk b10 126 [.slice A174 y90.length c175, .int .i64 y91, .int .u32 y92], .blk b26 126 [.slice A346 y252.length c347, .int .i64 y253, .int .u32 y254], .row A202 c203 46 2 (List.flatMap encT_api_Span x192), .row A589 c590 3 1 (List.flatMap encI x491), .row A421 c422 3 1 (List.flatMap encI l420)] W594 := hS596
           refine OKS.append (j := 7) (enc := encI) (xs := l420) (ys := [x458.Lo]) (zs := x504) rfl rfl rfl rfl rfl Tryz.underlying22 info3 rfl rfl rfl rfl rfl rfl hS598 rfl rfl rfl (hS598.srcR (j := 0) rfl (by decide) (flatMap_len (f := encI) (sz := 1) (fun _ => rfl) [x458.Lo])) (fun _ => rfl) (fun _ => rfl) h505 rfl ?_
           intro A599 c600 W601 hS602
           have hS603 : St ⟨w, [], φ⟩ φ442 [.row (some ⟨b595, 0, none⟩) 1 3 1 (List.flatMap encI [x458.Lo]), .row (some ⟨b585, 0, none⟩) 1 3 1 (List.flatMap encI [x458.Hi]), .blk b471 46 [.int .i64 x458.Lo, .int .i64 x458.Hi], .blk b10 126 [.slice A174 y90.length c175, .int .i64 y91, .int .u32 y92], .blk b26 126 [.slice A346 y252.length c347, .int .i64 y253, .int .u32 y254], .row A202 c203 46 2 (List.flatMap encT_api_Span x192), .row A589 c590 3 1 (List.flatMap encI x491), .row A599 c600 3 1 (List.flatMap encI x504)] W601 := hS602
           refine OKS.ra rfl rfl rfl rfl rfl rfl ?_
           refine OKS.ra rfl rfl rfl rfl rfl rfl ?_
           refine OKS.e ?_
           cases hm513
           exact thenQ_n ⟨rfl, ⟨φ442, A589, c590, A599, c600, f445, f446, f447, f448, f449, rfl, rfl, rfl, rfl, f452, f453, f454, f455, fi441, (PHeap.Le.refl _), (hS603.pick [2, 3, 4, 5, 6, 7] _ (by decide) rfl)⟩⟩
          ·refine OKS.buildSlice (pv := [(0, .int .i64 x458.Lo)]) (zs := [.int .i64 0]) (cs := [.int .i64 x458.Lo]) rfl rfl rfl rfl rfl (mapcons2 rfl mapnil2) Tryz.runUnderlying22 Tryz.sizeOf3 Tryz.zeroValue3 rfl rfl rfl rfl rfl hS588 ?_
           intro W610 b611 hS612
           have hS614 : St ⟨w, [], φ⟩ φ442 [.row (some ⟨b611, 0, none⟩) 1 3 1 (List.flatMap encI [x458.Lo]), .row (some ⟨b585, 0, none⟩) 1 3 1 (List.flatMap encI [x458.Hi]), .blk b471 46 [.int .i64 x458.Lo, .int .i64 x458.Hi], .blk b10 126 [.slice A174 y90.length c175, .int .i64 y91, .int .u32 y92], .blk b26 126 [.slice A346 y252.length c347, .int .i64 y253, .int .u32 y254], .row A202 c203 46 2 (List.flatMap encT_api_Span x192), .row A417 c418 3 1 (List.flatMap encI l416), .row A421 c422 3 1 (List.flatMap encI l420)] W610 := hS612
           refine OKS.append (j := 6) (enc := encI) (xs := l416) (ys := [x458.Hi]) (zs := x491) rfl rfl rfl rfl rfl Tryz.underlying22 info3 rfl rfl rfl rfl rfl rfl hS614 rfl rfl rfl (hS614.srcR (j := 1) rfl (by decide) (flatMap_len (f := encI) (sz := 1) (fun _ => rfl) [x458.Hi])) (fun _ => rfl) (fun _ => rfl) h492 rfl ?_
           intro A615 c616 W617 hS618
           have hS619 : St ⟨w, [], φ⟩ φ442 [.row (some ⟨b611, 0, none⟩) 1 3 1 (List.flatMap encI [x458.Lo]), .row (some ⟨b585, 0, none⟩) 1 3 1 (List.flatMap encI [x458.Hi]), .blk b471 46 [.int .i64 x458.Lo, .int .i64 x458.Hi], .blk b10 126 [.slice A174 y90.length c175, .int .i64 y91, .int .u32 y92], .blk b26 126 [.slice A346 y252.length c347, .int .i64 y253, .int .u32 y254], .row A202 c203 46 2 (List.flatMap encT_api_Span x192), .row A615 c616 3 1 (List.flatMap encI x491), .row A421 c422 3 1 (List.flatMap encI l420)] W617 := hS618
           refine OKS.append (j := 7) (enc := encI) (xs := l420) (ys := [x458.Lo]) (zs := x504) rfl rfl rfl rfl rfl Tryz.underlying22 info3 rfl rfl rfl rfl rfl rfl hS619 rfl rfl rfl (hS619.srcR (j := 0) rfl (by decide) (flatMap_len (f := encI) (sz := 1) (fun _ => rfl) [x458.Lo])) (fun _ => rfl) (fun _ => rfl) h505 rfl ?_
           intro A620 c621 W622 hS623
           have hS624 : St ⟨w, [], φ⟩ φ442 [.row (some ⟨b611, 0, none⟩) 1 3 1 (List.flatMap encI [x458.Lo]), .row (some ⟨b585, 0, none⟩) 1 3 1 (List.flatMap encI [x458.Hi]), .blk b471 46 [.int .i64 x458.Lo, .int .i64 x458.Hi], .blk b10 126 [.slice A174 y90.length c175, .int .i64 y91, .int .u32 y92], .blk b26 126 [.slice A346 y252.length c347, .int .i64 y253, .int .u32 y254], .row A202 c203 46 2 (List.flatMap encT_api_Span x192), .row A615 c616 3 1 (List.flatMap encI x491), .row A620 c621 3 1 (List.flatMap encI x504)] W622 := hS623
           refine OKS.ra rfl rfl rfl rfl rfl rfl ?_
           refine OKS.ra rfl rfl rfl rfl rfl rfl ?_
           refine OKS.e ?_
           cases hm513
           exact thenQ_n ⟨rfl, ⟨φ442, A615, c616, A620, c621, f445, f446, f447, f448, f449, rfl, rfl, rfl, rfl, f452, f453, f454, f455, fi441, (PHeap.Le.refl _), (hS624.pick [2, 3, 4, 5, 6, 7] _ (by decide) rfl)⟩⟩
         ·refine OKS.buildSlice (pv := [(0, .int .i64 x458.Lo)]) (zs := [.int .i64 0]) (cs := [.int .i64 x458.Lo]) rfl rfl rfl rfl rfl (mapcons2 rfl mapnil2) Tryz.runUnderlying22 Tryz.sizeOf3 Tryz.zeroValue3 rfl rfl rfl rfl rfl hS514 ?_
          intro W631 b632 hS633
          have hS635 : St ⟨w, [], φ⟩ φ442 [.row (some ⟨b632, 0, none⟩) 1 3 1 (List.flatMap encI [x458.Lo]), .blk b471 46 [.int .i64 x458.Lo, .int .i64 x458.Hi], .blk b10 126 [.slice A174 y90.length c175, .int .i64 y91, .int .u32 y92], .blk b26 126 [.slice A346 y252.length c347, .int .i64 y253, .int .u32 y254], .row A202 c203 46 2 (List.flatMap encT_api_Span x192), .row A417 c418 3 1 (List.flatMap encI l416), .row A421 c422 3 1 (List.flatMap encI l420)] W631 := hS633
          refine OKS.buildSlice (pv := [(0, .int .i64 x458.Hi)]) (zs := [.int .i64 0]) (cs := [.int .i64 x458.Hi]) rfl rfl rfl rfl rfl (mapcons2 rfl mapnil2) Tryz.runUnderlying22 Tryz.sizeOf3 Tryz.zeroValue3 rfl rfl rfl rfl rfl hS635 ?_
          intro W636 b637 hS638
          have hS640 : St ⟨w, [], φ⟩ φ442 [.row (some ⟨b637, 0, none⟩) 1 3 1 (List.flatMap encI [x458.Hi]), .row (some ⟨b632, 0, none⟩) 1 3 1 (List.flatMap encI [x458.Lo]), .blk b471 46 [.int .i64 x458.Lo, .int .i64 x458.Hi], .blk b10 126 [.slice A174 y90.length c175, .int .i64 y91, .int .u32 y92], .blk b26 126 [.slice A346 y252.length c347, .int .i64 y253, .int .u32 y254], .row A202 c203 46 2 (List.flatMap encT_api_Span x192), .row A417 c418 3 1 (List.flatMap encI l416), .row A421 c422 3 1 (List.flatMap encI l420)] W636 := hS638
          refine OKS.append (j := 6) (enc := encI) (xs := l416) (ys := [x458.Hi]) (zs := x491) rfl rfl rfl rfl rfl Tryz.underlying22 info3 rfl rfl rfl rfl rfl rfl hS640 rfl rfl rfl (hS640.srcR (j := 0) rfl (by decide) (flatMap_len (f := encI) (sz := 1) (fun _ => rfl) [x458.Hi])) (fun _ => rfl) (fun _ => rfl) h492 rfl ?_
          intro A641 c642 W643 hS644
          have hS645 : St ⟨w, [], φ⟩ φ442 [.row (some ⟨b637, 0, none⟩) 1 3 1 (List.flatMap encI [x458.Hi]), .row (some ⟨b632, 0, none⟩) 1 3 1 (List.flatMap encI [x458.Lo]), .blk b471 46 [.int .i64 x458.Lo, .int .i64 x458.Hi], .blk b10 126 [.slice A174 y90.length c175, .int .i64 y91, .int .u32 y92], .blk b26 126 [.slice A346 y252.length c347, .int .i64 y253, .int .u32 y254], .row A202 c203 46 2 (List.flatMap encT_api_Span x192), .row A641 c642 3 1 (List.flatMap encI x491), .row A421 c422 3 1 (List.flatMap encI l420)] W643 := hS644
          refine OKS.append (j := 7) (enc := encI) (xs := l420) (ys := [x458.Lo]) (zs := x504) rfl rfl rfl rfl rfl Tryz.underlying22 info3 rfl rfl rfl rfl rfl rfl hS645 rfl rfl rfl (hS645.srcR (j := 1) rfl (by decide) (flatMap_len (f := encI) (sz := 1) (fun _ => rfl) [x458.Lo])) (fun _ => rfl) (fun _ => rfl) h505 rfl ?_
          intro A646 c647 W648 hS649
          have hS650 : St ⟨w, [], φ⟩ φ442 [.row (some ⟨b637, 0, none⟩) 1 3 1 (List.flatMap encI [x458.Hi]), .row (some ⟨b632, 0, none⟩) 1 3 1 (List.flatMap encI [x458.Lo]), .blk b471 46 [.int .i64 x458.Lo, .int .i64 x458.Hi], .blk b10 126 [.slice A174 y90.length c175, .int .i64 y91, .int .u32 y92], .blk b26 126 [.slice A346 y252.length c347, .int .i64 y253, .int .u32 y254], .row A202 c203 46 2 (List.flatMap encT_api_Span x192), .row A641 c642 3 1 (List.flatMap encI x491), .row A646 c647 3 1 (List.flatMap encI x504)] W648 := hS649
          refine OKS.ra rfl rfl rfl rfl rfl rfl ?_
          refine OKS.ra rfl rfl rfl rfl rfl rfl ?_
          refine OKS.e ?_
          cases hm513
          exact thenQ_n ⟨rfl, ⟨φ442, A641, c642, A646, c647, f445, f446, f447, f448, f449, rfl, rfl, rfl, rfl, f452, f453, f454, f455, fi441, (PHeap.Le.refl _), (hS650.pick [2, 3, 4, 5, 6, 7] _ (by decide) rfl)⟩⟩
       ·rintro σ657 W658 ⟨φ659, A478, c479, A481, c482, f662, f663, f664, f665, f666, f667, f668, f669, f670, f671, f672, f673, f674, f675, le660, hS661⟩
        refine CK.seq ?_
        refine CK.reg (ks := []) (.fl 0 (.fl 1 (.fl 2 (.nil)))) rfl ?_
        refine OKS.rm rfl rfl rfl rfl rfl f669 ?_
        refine OKS.rm rfl rfl rfl rfl rfl f666 ?_
        refine OKS.r rfl rfl rfl rfl (fun _ => Runs.eql rfl rfl rfl) ?_
        refine OKS.e ?_
        refine thenQ_n ?_
        by_cases c676 : (↑k424 : Int) = (↑k370 : Int)
        ·have hm677 := hm485; rw [if_pos c676] at hm677; replace c676 := Hid.mk c676
         refine CK.condT (decT c676.out) ?_
         have q := bnd hm677
         obtain ⟨_, h678, hm694⟩ := q
         have q := bnd hm694
         obtain ⟨_, h686, hm695⟩ := q
         refine CK.anyOrd Tryz.mixed [3, 3, 3, 3, 3, 1, 3, 2, 3, 0, 3, 0] (.fl 0 (.fl 1 (.fl 2 (.fl 3 (.fl 4 (.fl 5 (.fl 6 (.fl 8 (.fx 7 (.fx 9 (.fl 10 (.fx 11 (.nil) (.stop))) (.stop)) (.fx 9 (.fx 7 (.fl 10 (.fx 11 (.nil) (.stop))) (.stop)) (.stop))))))))))) (by kernel_rfl) ?_
         have hS696 := hS661.drew
         generalize hw_W697 : ({ W658 with drawn := W658.drawn + 1 } : World) = W697 at hS696 ⊢
         refine OKS.rm rfl rfl rfl rfl rfl f667 ?_
         refine OKS.rm rfl rfl rfl rfl rfl f669 ?_
         refine OKS.rm rfl rfl rfl rfl rfl f668 ?_
         refine OKS.rm rfl rfl rfl rfl rfl f669 ?_
         refine OKS.r rfl rfl rfl rfl (fun _ => Runs.fa rfl f670 Tryz.runUnderlying46 rfl Tryz.sizeOf3) ?_
         refine OKS.m rfl rfl rfl rfl (hS696.ldB (j := 0) rfl rfl rfl Tryz.isAgg3 (v := .int .i64 x458.Lo) rfl) rfl ?_
         refine OKS.r rfl rfl rfl rfl (fun _ => Runs.fa rfl f670 Tryz.runUnderlying46 rfl Tryz.sizeOf3) ?_
         obtain ⟨b698, hA699⟩ := hS696.rowSome (j := 4) rfl (by rw [flatMap_len (f := encI) (sz := 1) (fun _ => rfl) l477]; have hz := chk_lt h678; omega)
         refine OKS.r rfl rfl rfl rfl (fun _ => Runs.iaN rfl rfl hA699 rfl Tryz.runUnderlying22 Tryz.sizeOf3 (chk_lt h678)) ?_
         refine OKS.both ?_ ?_
         ·refine OKS.mx2 rfl rfl rfl rfl (hS696.ldB (j := 0) rfl rfl rfl Tryz.isAgg3 (v := .int .i64 x458.Hi) rfl) ?_
          have hg700 := gd_at (xs := l477) (chk_lt h678)
          refine OKS.stR (j := 4) (vs := [.int .i64 x458.Lo]) (cs' := List.flatMap encI (List.set l477 k424 x458.Lo)) rfl rfl rfl rfl hS696 rfl hA699 rfl rfl rfl Tryz.sizeOf3 (by rw [flatMap_len (f := encI) (sz := 1) (fun _ => rfl)]; have hz := chk_lt h678; simp only [List.getElem_toArray, List.getElem_cons_succ, List.getElem_cons_zero, List.length_cons, List.length_nil]; omega) rfl (setN_at (sz := 1) (fo := 0) (fun _ => rfl) _ _ _ _ hg700 (by first | omega | (simp only [List.getElem_toArray, List.getElem_cons_succ, List.getElem_cons_zero]; omega)) (Nat.le_of_ble_eq_true rfl) rfl) rfl ?_
          intro W701 hS702
          have hS703 : St ⟨w, [], φ⟩ φ659 [.blk b471 46 [.int .i64 x458.Lo, .int .i64 x458.Hi], .blk b10 126 [.slice A174 y90.length c175, .int .i64 y91, .int .u32 y92], .blk b26 126 [.slice A346 y252.length c347, .int .i64 y253, .int .u32 y254], .row A202 c203 46 2 (List.flatMap encT_api_Span x192), .row A478 c479 3 1 (List.flatMap encI (List.set l477 k424 x458.Lo)), .row A481 c482 3 1 (List.flatMap encI l480)] W701 := hS702
          obtain ⟨b704, hA705⟩ := hS703.rowSome (j := 5) rfl (by rw [flatMap_len (f := encI) (sz := 1) (fun _ => rfl) l480]; have hz := chk_lt h686; omega)
          refine OKS.r rfl rfl rfl rfl (fun _ => Runs.iaN rfl rfl hA705 rfl Tryz.runUnderlying22 Tryz.sizeOf3 (chk_lt h686)) ?_
          have hg706 := gd_at (xs := l480) (chk_lt h686)
          refine OKS.stR (j := 5) (vs := [.int .i64 x458.Hi]) (cs' := List.flatMap encI (List.set l480 k424 x458.Hi)) rfl rfl rfl rfl hS703 rfl hA705 rfl rfl rfl Tryz.sizeOf3 (by rw [flatMap_len (f := encI) (sz := 1) (fun _ => rfl)]; have hz := chk_lt h686; simp only [List.getElem_toArray, List.getElem_cons_succ, List.getElem_cons_zero, List.length_cons, List.length_nil]; omega) rfl (setN_at (sz := 1) (fo := 0) (fun _ => rfl) _ _ _ _ hg706 (by first | omega | (simp only [List.getElem_toArray, List.getElem_cons_succ, List.getElem_cons_zero]; omega)) (Nat.le_of_ble_eq_true rfl) rfl) rfl ?_
          intro W707 hS708
          have hS709 : St ⟨w, [], φ⟩ φ659 [.blk b471 46 [.int .i64 x458.Lo, .int .i64 x458.Hi], .blk b10 126 [.slice A174 y90.length c175, .int .i64 y91, .int .u32 y92], .blk b26 126 [.slice A346 y252.length c347, .int .i64 y253, .int .u32 y254], .row A202 c203 46 2 (List.flatMap encT_api_Span x192), .row A478 c479 3 1 (List.flatMap encI (List.set l477 k424 x458.Lo)), .row A481 c482 3 1 (List.flatMap encI (List.set l480 k424 x458.Hi))] W707 := hS708
          refine OKS.e ?_
          refine blockQ_n ?_
          refine thenQ_n ?_
          refine CK.reg (ks := []) (.fl 0 (.fl 1 (.nil))) rfl ?_
          refine OKS.r rfl rfl rfl rfl (fun _ => Runs.to (Runs.addw rfl f675 rfl) (congrArg (Value.int .i64) hi457.out)) ?_
          refine OKS.rm rfl rfl rfl rfl rfl rfl ?_
          refine OKS.e ?_
          cases hm695
          exact thenQ_n ⟨rfl, ⟨φ659, A478, c479, A481, c482, rfl, f662, f663, f664, f665, f666, (Eq.trans (b := (.slice A478 l477.length c479 : Value)) (c := (.slice A478 ((List.set l477 k424 x458.Lo).length) c479 : Value)) f667 (by simp only [List.length_set])), (Eq.trans (b := (.slice A481 l480.length c482 : Value)) (c := (.slice A481 ((List.set l480 k424 x458.Hi).length) c482 : Value)) f668 (by simp only [List.length_set])), f671, f672, f673, f674, (le443.trans le660), (hS709.pick [1, 2, 3, 4, 5] _ (by decide) rfl)⟩⟩
         ·have hg716 := gd_at (xs := l477) (chk_lt h678)
          refine OKS.stR (j := 4) (vs := [.int .i64 x458.Lo]) (cs' := List.flatMap encI (List.set l477 k424 x458.Lo)) rfl rfl rfl rfl hS696 rfl hA699 rfl rfl rfl Tryz.sizeOf3 (by rw [flatMap_len (f := encI) (sz := 1) (fun _ => rfl)]; have hz := chk_lt h678; simp only [List.getElem_toArray, List.getElem_cons_succ, List.getElem_cons_zero, List.length_cons, List.length_nil]; omega) rfl (setN_at (sz := 1) (fo := 0) (fun _ => rfl) _ _ _ _ hg716 (by first | omega | (simp only [List.getElem_toArray, List.getElem_cons_succ, List.getElem_cons_zero]; omega)) (Nat.le_of_ble_eq_true rfl) rfl) rfl ?_
          intro W717 hS718
          have hS719 : St ⟨w, [], φ⟩ φ659 [.blk b471 46 [.int .i64 x458.Lo, .int .i64 x458.Hi], .blk b10 126 [.slice A174 y90.length c175, .int .i64 y91, .int .u32 y92], .blk b26 126 [.slice A346 y252.length c347, .int .i64 y253, .int .u32 y254], .row A202 c203 46 2 (List.flatMap encT_api_Span x192), .row A478 c479 3 1 (List.flatMap encI (List.set l477 k424 x458.Lo)), .row A481 c482 3 1 (List.flatMap encI l480)] W717 := hS718
          refine OKS.mx2 rfl rfl rfl rfl (hS719.ldB (j := 0) rfl rfl rfl Tryz.isAgg3 (v := .int .i64 x458.Hi) rfl) ?_
          obtain ⟨b720, hA721⟩ := hS719.rowSome (j := 5) rfl (by rw [flatMap_len (f := encI) (sz := 1) (fun _ => rfl) l480]; have hz := chk_lt h686; omega)
          refine OKS.r rfl rfl rfl rfl (fun _ => Runs.iaN rfl rfl hA721 rfl Tryz.runUnderlying22 Tryz.sizeOf3 (chk_lt h686)) ?_
          have hg722 := gd_at (xs := l480) (chk_lt h686)
          refine OKS.stR (j := 5) (vs := [.int .i64 x458.Hi]) (cs' := List.flatMap encI (List.set l480 k424 x458.Hi)) rfl rfl rfl rfl hS719 rfl hA721 rfl rfl rfl Tryz.sizeOf3 (by rw [flatMap_len (f := encI) (sz := 1) (fun _ => rfl)]; have hz := chk_lt h686; simp only [List.getElem_toArray, List.getElem_cons_succ, List.getElem_cons_zero, List.length_cons, List.length_nil]; omega) rfl (setN_at (sz := 1) (fo := 0) (fun _ => rfl) _ _ _ _ hg722 (by first | omega | (simp only [List.getElem_toArray, List.getElem_cons_succ, List.getElem_cons_zero]; omega)) (Nat.le_of_ble_eq_true rfl) rfl) rfl ?_
          intro W723 hS724
          have hS725 : St ⟨w, [], φ⟩ φ659 [.blk b471 46 [.int .i64 x458.Lo, .int .i64 x458.Hi], .blk b10 126 [.slice A174 y90.length c175, .int .i64 y91, .int .u32 y92], .blk b26 126 [.slice A346 y252.length c347, .int .i64 y253, .int .u32 y254], .row A202 c203 46 2 (List.flatMap encT_api_Span x192), .row A478 c479 3 1 (List.flatMap encI (List.set l477 k424 x458.Lo)), .row A481 c482 3 1 (List.flatMap encI (List.set l480 k424 x458.Hi))] W723 := hS724
          refine OKS.e ?_
          refine blockQ_n ?_
          refine thenQ_n ?_
          refine CK.reg (ks := []) (.fl 0 (.fl 1 (.nil))) rfl ?_
          refine OKS.r rfl rfl rfl rfl (fun _ => Runs.to (Runs.addw rfl f675 rfl) (congrArg (Value.int .i64) hi457.out)) ?_
          refine OKS.rm rfl rfl rfl rfl rfl rfl ?_
          refine OKS.e ?_
          cases hm695
          exact thenQ_n ⟨rfl, ⟨φ659, A478, c479, A481, c482, rfl, f662, f663, f664, f665, f666, (Eq.trans (b := (.slice A478 l477.length c479 : Value)) (c := (.slice A478 ((List.set l477 k424 x458.Lo).length) c479 : Value)) f667 (by simp only [List.length_set])), (Eq.trans (b := (.slice A481 l480.length c482 : Value)) (c := (.slice A481 ((List.set l480 k424 x458.Hi).length) c482 : Value)) f668 (by simp only [List.length_set])), f671, f672, f673, f674, (le443.trans le660), (hS725.pick [1, 2, 3, 4, 5] _ (by decide) rfl)⟩⟩
        ·have hm732 := hm485; rw [if_neg c676] at hm732; replace c676 := Hid.mk c676
         refine CK.condF (decF c676.out) ?_
         refine CK.skip ?_
         refine blockQ_n ?_
         refine thenQ_n ?_
         refine CK.reg (ks := []) (.fl 0 (.fl 1 (.nil))) rfl ?_
         refine OKS.r rfl rfl rfl rfl (fun _ => Runs.to (Runs.addw rfl f675 rfl) (congrArg (Value.int .i64) hi457.out)) ?_
         refine OKS.rm rfl rfl rfl rfl rfl rfl ?_
         refine OKS.e ?_
         cases hm732
         exact thenQ_n ⟨rfl, ⟨φ659, A478, c479, A481, c482, rfl, f662, f663, f664, f665, f666, f667, f668, f671, f672, f673, f674, (le443.trans le660), (hS661.pick [1, 2, 3, 4, 5] _ (by decide) rfl)⟩⟩
      ·rintro σ739 W740 ⟨φ753, A749, c750, A751, c752, fi742, f756, f757, f758, f759, f760, f761, f762, f763, f764, f765, f766, le754, hS755⟩
       have c767 : Hid (¬ ((↑(((↑y93.length : Int) : Int) - 0).toNat : Int) < (↑y93.length : Int))) := Hid.mk (lp_end0)
       refine CK.seq ?_
       refine CK.reg (ks := []) (.fl 0 (.nil)) rfl ?_
       refine OKS.r rfl rfl rfl rfl (fun _ => Runs.lss rfl fi742 f766) ?_
       refine OKS.e ?_
       refine thenQ_n ?_
       refine CK.seq ?_
       refine CK.condF (decF c767.out) ?_
       refine CK.exit ?_
       refine thenQ_e ?_
       refine thenQ_e ?_
       refine blockQ_h ?_
       refine thenQ_n ?_
       refine CK.seq ?_
       refine CK.anyOrd Tryz.mixed [3, 3, 3, 2, 3, 3, 3, 3, 1, 3, 3, 3, 3, 3, 2, 3, 3, 3, 3, 1, 3, 3, 3, 3, 3, 3, 2, 3, 3, 3, 1, 2, 3, 3] (.fl 0 (.fl 1 (.fl 2 (.fl 4 (.fl 5 (.fl 6 (.fl 7 (.fl 8 (.fx 3 (.fl 9 (.fl 10 (.fl 11 (.fl 12 (.fl 13 (.fl 15 (.fl 16 (.fl 17 (.fl 18 (.fl 19 (.fx 14 (.fl 20 (.fl 21 (.fl 22 (.fl 23 (.fl 24 (.fl 25 (.fl 27 (.fl 28 (.fl 29 (.fl 30 (.fx 26 (.fx 31 (.fl 32 (.fl 33 (.nil))) .stop) .stop))))))))))) .stop))))))))))) .stop))))))))) (by kernel_rfl) ?_
       have hS768 := hS755.drew
       generalize hw_W769 : ({ W740 with drawn := W740.drawn + 1 } : World) = W769 at hS768 ⊢
       refine OKS.rm rfl rfl rfl rfl rfl f758 ?_
       refine OKS.rm rfl rfl rfl rfl rfl f760 ?_
       refine OKS.rm rfl rfl rfl rfl rfl f761 ?_
       refine OKS.rm rfl rfl rfl rfl rfl f757 ?_
       refine OKS.rm rfl rfl rfl rfl rfl f760 ?_
       have q := bnd hm425
       obtain ⟨_, h770, hm771⟩ := q
       obtain ⟨b772, hA773⟩ := hS768.rowSome (j := 2) rfl (by rw [flatMap_len (f := encT_api_Span) (sz := 2) (fun _ => rfl) x192]; have hz := chk_lt h770; omega)
       refine OKS.r rfl rfl rfl rfl (fun _ => Runs.iaN rfl rfl hA773 rfl Tryz.runUnderlying43 Tryz.sizeOf46 (chk_lt h770)) ?_
       refine OKS.r rfl rfl rfl rfl (fun _ => Runs.fa rfl rfl Tryz.runUnderlying46 rfl Tryz.sizeOf3) ?_
       have hg774 := gd_at (xs := x192) (chk_lt h770)
       refine OKS.m rfl rfl rfl rfl (hS768.ldR (j := 2) rfl hA773 rfl rfl Tryz.isAgg3 (flatMap_cell (sz := 2) (fun _ => rfl) _ _ 0 _ hg774 (by first | omega | rfl | simp) rfl)) rfl ?_
       have q := hS768.freezeR (k := 3) (n := y429.length) rfl (flatMap_len (f := encI) (sz := 1) (fun _ => rfl) y429) (by decide)
       obtain ⟨φ775, le776, hs777, hS778⟩ := q
       have hS779 : St ⟨w, [], φ⟩ φ775 [.blk b10 126 [.slice A174 y90.length c175, .int .i64 y91, .int .u32 y92], .blk b26 126 [.slice A346 y252.length c347, .int .i64 y253, .int .u32 y254], .row A202 c203 46 2 (List.flatMap encT_api_Span x192), .row A751 c752 3 1 (List.flatMap encI y430)] W769 := hS778
       have q := bnd hm771
       obtain ⟨x780, h781, hm782⟩ := q
       refine OKS.callH 0 rfl rfl rfl rfl (Enters.mk rfl rfl Tryz.call23 (mapcons rfl (mapcons rfl mapnil)) rfl) hS779 (fun hs => w_klisterlaw08_RelayChanced_1 (↑k370 : Int) y429 A749 c750 W769 φ775 hs hs777 h781) (.inr rfl) ?_
       rintro φ783 L784 v785 W786 le787 hS788 ⟨rfl, rfl⟩
       have hS789 : St ⟨w, [], φ⟩ φ783 [.blk b10 126 [.slice A174 y90.length c175, .int .i64 y91, .int .u32 y92], .blk b26 126 [.slice A346 y252.length c347, .int .i64 y253, .int .u32 y254], .row A202 c203 46 2 (List.flatMap encT_api_Span x192), .row A751 c752 3 1 (List.flatMap encI y430)] W786 := hS788
       refine OKS.r rfl rfl rfl rfl (fun _ => Runs.neq rfl rfl rfl) ?_
       refine OKS.rm rfl rfl rfl rfl rfl rfl ?_
       by_cases c790 : x780 = ((gd x192 k370).Lo)
       ·have hm791 := hm782; rw [if_pos c790] at hm791; replace c790 := Hid.mk c790
        refine OKS.rm rfl rfl rfl (wantedY rfl rfl (decF (fun h => h c790.out))) rfl f758 ?_
        refine OKS.rm rfl rfl rfl (wantedY rfl rfl (decF (fun h => h c790.out))) rfl f760 ?_
        refine OKS.rm rfl rfl rfl (wantedY rfl rfl (decF (fun h => h c790.out))) rfl f762 ?_
        refine OKS.rm rfl rfl rfl (wantedY rfl rfl (decF (fun h => h c790.out))) rfl f757 ?_
        refine OKS.rm rfl rfl rfl (wantedY rfl rfl (decF (fun h => h c790.out))) rfl f760 ?_
        refine OKS.r rfl rfl rfl (wantedY rfl rfl (decF (fun h => h c790.out))) (fun _ => Runs.iaN rfl rfl hA773 rfl Tryz.runUnderlying43 Tryz.sizeOf46 (chk_lt h770)) ?_
        refine OKS.r rfl rfl rfl (wantedY rfl rfl (decF (fun h => h c790.out))) (fun _ => Runs.fa rfl rfl Tryz.runUnderlying46 rfl Tryz.sizeOf3) ?_
        have hg792 := gd_at (xs := x192) (chk_lt h770)
        refine OKS.m rfl rfl rfl (wantedY rfl rfl (decF (fun h => h c790.out))) (hS789.ldR (j := 2) rfl hA773 rfl rfl Tryz.isAgg3 (flatMap_cell (sz := 2) (fun _ => rfl) _ _ 1 _ hg792 (by first | omega | rfl | simp) rfl)) rfl ?_
        have q := hS789.freezeR (k := 3) (n := y430.length) rfl (flatMap_len (f := encI) (sz := 1) (fun _ => rfl) y430) (by decide)
        obtain ⟨φ793, le794, hs795, hS796⟩ := q
        have hS797 : St ⟨w, [], φ⟩ φ793 [.blk b10 126 [.slice A174 y90.length c175, .int .i64 y91, .int .u32 y92], .blk b26 126 [.slice A346 y252.length c347, .int .i64 y253, .int .u32 y254], .row A202 c203 46 2 (List.flatMap encT_api_Span x192)] W786 := hS796
        have q := bnd hm791
        obtain ⟨x798, h799, hm800⟩ := q
        refine OKS.callH 0 rfl rfl rfl (wantedY rfl rfl (decF (fun h => h c790.out))) (Enters.mk rfl rfl Tryz.call23 (mapcons rfl (mapcons rfl mapnil)) rfl) hS797 (fun hs => w_klisterlaw08_RelayChanced_1 (↑k370 : Int) y430 A751 c752 W786 φ793 hs hs795 h799) (.inr rfl) ?_
        rintro φ801 L802 v803 W804 le805 hS806 ⟨rfl, rfl⟩
        have hS807 : St ⟨w, [], φ⟩ φ801 [.blk b10 126 [.slice A174 y90.length c175, .int .i64 y91, .int .u32 y92], .blk b26 126 [.slice A346 y252.length c347, .int .i64 y253, .int .u32 y254], .row A202 c203 46 2 (List.flatMap encT_api_Span x192)] W804 := hS806
        refine OKS.r rfl rfl rfl (wantedY rfl rfl (decF (fun h => h c790.out))) (fun _ => Runs.neq rfl rfl rfl) ?_
        refine OKS.r rfl rfl rfl rfl (fun _ => Runs.pickF rfl (decF (fun h => h c790.out)) rfl) ?_
        refine OKS.rm rfl rfl rfl rfl rfl rfl ?_
        by_cases c808 : x798 = ((gd x192 k370).Hi)
        ·have hm809 := hm800; rw [if_pos c808] at hm809; replace c808 := Hid.mk c808
         refine OKS.rm rfl rfl rfl (wantedY rfl rfl (decF (fun h => h c808.out))) rfl f758 ?_
         refine OKS.rm rfl rfl rfl (wantedY rfl rfl (decF (fun h => h c808.out))) rfl f760 ?_
         refine OKS.rm rfl rfl rfl (wantedY rfl rfl (decF (fun h => h c808.out))) rfl f759 ?_
         refine OKS.rm rfl rfl rfl (wantedY rfl rfl (decF (fun h => h c808.out))) rfl f757 ?_
         refine OKS.rm rfl rfl rfl (wantedY rfl rfl (decF (fun h => h c808.out))) rfl f760 ?_
         refine OKS.r rfl rfl rfl (wantedY rfl rfl (decF (fun h => h c808.out))) (fun _ => Runs.iaN rfl rfl hA773 rfl Tryz.runUnderlying43 Tryz.sizeOf46 (chk_lt h770)) ?_
         have hg810 := gd_at (xs := x192) (chk_lt h770)
         refine OKS.m rfl rfl rfl (wantedY rfl rfl (decF (fun h => h c808.out))) (hS807.ldRA (j := 2) rfl hA773 rfl rfl Tryz.isAgg46 Tryz.sizeOf46 (vs := [.int .i64 ((gd x192 k370).Lo), .int .i64 ((gd x192 k370).Hi)]) (flatMap_sub (sz := 2) (fun _ => rfl) _ _ _ hg810 (by first | omega | rfl | simp) rfl) rfl) rfl ?_
         have h811 := hs365.le le383
         have h812 := h811.le le754
         have h813 := h812.le le776
         have h814 := h813.le le787
         have h815 := h814.le le794
         have h816 := h815.le le805
         have q := bnd hm809
         obtain ⟨x817, h818, hm819⟩ := q
         refine OKS.callH 0 rfl rfl rfl (wantedY rfl rfl (decF (fun h => h c808.out))) (Enters.mk rfl rfl Tryz.call23 (mapcons rfl (mapcons rfl mapnil)) rfl) hS807 (fun hs => w_klisterlaw08_RelayChanced_1 (↑k370 : Int) y255 A348 c349 W804 φ801 hs h816 h818) (.inr rfl) ?_
         rintro φ820 L821 v822 W823 le824 hS825 ⟨rfl, rfl⟩
         have hS826 : St ⟨w, [], φ⟩ φ820 [.blk b10 126 [.slice A174 y90.length c175, .int .i64 y91, .int .u32 y92], .blk b26 126 [.slice A346 y252.length c347, .int .i64 y253, .int .u32 y254], .row A202 c203 46 2 (List.flatMap encT_api_Span x192)] W823 := hS825
         have q := bnd hm819
         obtain ⟨x827, h828, hm829⟩ := q
         refine OKS.callH 0 rfl rfl rfl (wantedY rfl rfl (decF (fun h => h c808.out))) (Enters.mk rfl rfl Tryz.call25 (mapcons rfl (mapcons rfl mapnil)) rfl) hS826 (fun hs => w_klisterlaw08_within x817 (gd x192 k370) W823 φ820 hs h828) (.inr rfl) ?_
         rintro φ830 L831 v832 W833 le834 hS835 ⟨rfl, rfl⟩
         have hS836 : St ⟨w, [], φ⟩ φ830 [.blk b10 126 [.slice A174 y90.length c175, .int .i64 y91, .int .u32 y92], .blk b26 126 [.slice A346 y252.length c347, .int .i64 y253, .int .u32 y254], .row A202 c203 46 2 (List.flatMap encT_api_Span x192)] W833 := hS835
         refine OKS.r rfl rfl rfl (wantedY rfl rfl (decF (fun h => h c808.out))) (fun _ => Runs.notT rfl rfl) ?_
         refine OKS.r rfl rfl rfl rfl (fun _ => Runs.pickF rfl (decF (fun h => h c808.out)) rfl) ?_
         refine OKS.e ?_
         refine thenQ_n ?_
         by_cases c837 : x827 = true
         ·have hm838 := hm829; rw [if_pos c837] at hm838; replace c837 := Hid.mk c837
          refine CK.condF (congrArg (fun b => Value.bool (!b)) c837.out) ?_
          refine CK.skip ?_
          refine blockQ_n ?_
          refine thenQ_n ?_
          refine CK.reg (ks := []) (.fl 0 (.fl 1 (.nil))) rfl ?_
          refine OKS.r rfl rfl rfl rfl (fun _ => Runs.to (Runs.addw rfl f764 rfl) (congrArg (Value.int .i64) hi391.out)) ?_
          refine OKS.rm rfl rfl rfl rfl rfl rfl ?_
          refine OKS.e ?_
          obtain rfl := Option.some.inj hm838
          exact thenQ_n ⟨rfl, _, rfl, ⟨φ830, rfl, f756, f757, f758, f759, f763, (((((((le383.trans le754).trans le776).trans le787).trans le794).trans le805).trans le824).trans le834), hS836⟩⟩
         ·have hm839 := hm829; rw [if_neg c837] at hm839; replace c837 := Hid.mk c837
          refine CK.condT (congrArg (fun b => Value.bool (!b)) (Bool.eq_false_iff.2 c837.out)) ?_
          refine CK.seq ?_
          refine CK.reg (ks := []) (.fl 0 (.nil)) rfl ?_
          refine OKS.ra rfl rfl rfl rfl rfl rfl ?_
          refine OKS.e ?_
          refine thenQ_n ?_
          refine CK.ret ?_
          refine blockQ_r ?_
          refine thenQ_r ?_
          have q := esc_spec hm839
          obtain ⟨v840, hm841, e842⟩ := q
          obtain rfl := jn_inr hm248 hX372 (hb379 v840 e842)
          refine thenQ_r ?_
          refine blockQ_r ?_
          refine thenQ_r ?_
          cases hm841
          exact ⟨rfl, _, (res1 rfl), φ830, _, (hS836.pick [] _ (by decide) rfl), rfl, rfl⟩
        ·have hm843 := hm800; rw [if_neg c808] at hm843; replace c808 := Hid.mk c808
         refine OKS.p rfl rfl rfl (wantedN rfl rfl (decT c808.out) rfl) ?_
         refine OKS.p rfl rfl rfl (wantedN rfl rfl (decT c808.out) rfl) ?_
         refine OKS.p rfl rfl rfl (wantedN rfl rfl (decT c808.out) rfl) ?_
         refine OKS.p rfl rfl rfl (wantedN rfl rfl (decT c808.out) rfl) ?_
         refine OKS.p rfl rfl rfl (wantedN rfl rfl (decT c808.out) rfl) ?_
         refine OKS.p rfl rfl rfl (wantedN rfl rfl (decT c808.out) rfl) ?_
         refine OKS.p rfl rfl rfl (wantedN rfl rfl (decT c808.out) rfl) ?_
         refine OKS.px rfl rfl rfl (wantedN rfl rfl (decT c808.out) rfl) ?_
         refine OKS.px rfl rfl rfl (wantedN rfl rfl (decT c808.out) rfl) ?_
         refine OKS.p rfl rfl rfl (wantedN rfl rfl (decT c808.out) rfl) ?_
         refine OKS.r rfl rfl rfl rfl (fun _ => Runs.pickT rfl (decT c808.out) rfl) ?_
         refine OKS.e ?_
         refine thenQ_n ?_
         refine CK.condT rfl ?_
         refine CK.seq ?_
         refine CK.reg (ks := []) (.fl 0 (.nil)) rfl ?_
         refine OKS.ra rfl rfl rfl rfl rfl rfl ?_
         refine OKS.e ?_
         refine thenQ_n ?_
         refine CK.ret ?_
         refine blockQ_r ?_
         refine thenQ_r ?_
         have q := esc_spec hm843
         obtain ⟨v844, hm845, e846⟩ := q
         obtain rfl := jn_inr hm248 hX372 (hb379 v844 e846)
         refine thenQ_r ?_
         refine blockQ_r ?_
         refine thenQ_r ?_
         cases hm845
         exact ⟨rfl, _, (res1 rfl), φ801, _, (hS807.pick [] _ (by decide) rfl), rfl, rfl⟩
       ·have hm847 := hm782; rw [if_neg c790] at hm847; replace c790 := Hid.mk c790
        refine OKS.p rfl rfl rfl (wantedN rfl rfl (decT c790.out) rfl) ?_
        refine OKS.p rfl rfl rfl (wantedN rfl rfl (decT c790.out) rfl) ?_
        refine OKS.p rfl rfl rfl (wantedN rfl rfl (decT c790.out) rfl) ?_
        refine OKS.p rfl rfl rfl (wantedN rfl rfl (decT c790.out) rfl) ?_
        refine OKS.p rfl rfl rfl (wantedN rfl rfl (decT c790.out) rfl) ?_
        refine OKS.p rfl rfl rfl (wantedN rfl rfl (decT c790.out) rfl) ?_
        refine OKS.p rfl rfl rfl (wantedN rfl rfl (decT c790.out) rfl) ?_
        refine OKS.p rfl rfl rfl (wantedN rfl rfl (decT c790.out) rfl) ?_
        refine OKS.px rfl rfl rfl (wantedN rfl rfl (decT c790.out) rfl) ?_
        refine OKS.p rfl rfl rfl (wantedN rfl rfl (decT c790.out) rfl) ?_
        refine OKS.r rfl rfl rfl rfl (fun _ => Runs.pickT rfl (decT c790.out) rfl) ?_
        refine OKS.rm rfl rfl rfl rfl rfl rfl ?_
        refine OKS.p rfl rfl rfl (wantedN rfl rfl rfl rfl) ?_
        refine OKS.p rfl rfl rfl (wantedN rfl rfl rfl rfl) ?_
        refine OKS.p rfl rfl rfl (wantedN rfl rfl rfl rfl) ?_
        refine OKS.p rfl rfl rfl (wantedN rfl rfl rfl rfl) ?_
        refine OKS.p rfl rfl rfl (wantedN rfl rfl rfl rfl) ?_
        refine OKS.p rfl rfl rfl (wantedN rfl rfl rfl rfl) ?_
        refine OKS.p rfl rfl rfl (wantedN rfl rfl rfl rfl) ?_
        refine OKS.px rfl rfl rfl (wantedN rfl rfl rfl rfl) ?_
        refine OKS.px rfl rfl rfl (wantedN rfl rfl rfl rfl) ?_
        refine OKS.p rfl rfl rfl (wantedN rfl rfl rfl rfl) ?_
        refine OKS.r rfl rfl rfl rfl (fun _ => Runs.pickT rfl rfl rfl) ?_
        refine OKS.e ?_
        refine thenQ_n ?_
        refine CK.condT rfl ?_
        refine CK.seq ?_
        refine CK.reg (ks := []) (.fl 0 (.nil)) rfl ?_
        refine OKS.ra rfl rfl rfl rfl rfl rfl ?_
        refine OKS.e ?_
        refine thenQ_n ?_
        refine CK.ret ?_
        refine blockQ_r ?_
        refine thenQ_r ?_
        have q := esc_spec hm847
        obtain ⟨v848, hm849, e850⟩ := q
        obtain rfl := jn_inr hm248 hX372 (hb379 v848 e850)
        refine thenQ_r ?_
        refine blockQ_r ?_
        refine thenQ_r ?_
        cases hm849
        exact ⟨rfl, _, (res1 rfl), φ783, _, (hS789.pick [] _ (by decide) rfl), rfl, rfl⟩
     ·rintro ⟨⟩ σ851 W852 ⟨φ855, fi854, f858, f859, f860, f861, f862, le856, hS857⟩ hb853
      have hm863 := jn_inl hm248 hX372 hb853
      try dsimp only at hm863
      have c864 : Hid (¬ ((↑(((↑y93.length : Int) : Int) - 0).toNat : Int) < (↑y93.length : Int))) := Hid.mk (lp_end0)
      refine CK.seq ?_
      refine CK.reg (ks := []) (.fl 0 (.nil)) rfl ?_
      refine OKS.r rfl rfl rfl rfl (fun _ => Runs.lss rfl fi854 f862) ?_
      refine OKS.e ?_
      refine thenQ_n ?_
      refine CK.seq ?_
      refine CK.condF (decF c864.out) ?_
      refine CK.exit ?_
      refine thenQ_e ?_
      refine thenQ_e ?_
      refine blockQ_h ?_
      refine thenQ_n ?_
      refine CK.seq ?_
      refine CK.reg (ks := []) (.fx 0 (.fl 1 (.nil)) .stop) rfl ?_
      have q := bnd hm863
      obtain ⟨x865, h866, hm867⟩ := q
      refine OKS.callH 0 rfl rfl rfl rfl (Enters.mk rfl rfl Tryz.call8 mapnil rfl) hS857 (fun hs => w_klisterlaw08_awake W852 φ855 hs h866) (.inr rfl) ?_
      rintro φ868 L869 v870 W871 le872 hS873 ⟨rfl, rfl⟩
      have hS874 : St ⟨w, [], φ⟩ φ868 [.blk b10 126 [.slice A174 y90.length c175, .int .i64 y91, .int .u32 y92], .blk b26 126 [.slice A346 y252.length c347, .int .i64 y253, .int .u32 y254], .row A202 c203 46 2 (List.flatMap encT_api_Span x192)] W871 := hS873
      refine OKS.ra rfl rfl rfl rfl rfl rfl ?_
      refine OKS.e ?_
      refine thenQ_n ?_
      refine CK.ret ?_
      cases hm867
      exact ⟨rfl, _, (res1 rfl), φ868, _, (hS874.pick [] _ (by decide) rfl), rfl, rfl⟩
   ·have hm875 := hm207; rw [if_neg c208] at hm875; replace c208 := Hid.mk c208
    refine CK.condT (decT c208.out) ?_
    refine CK.seq ?_
    refine CK.reg (ks := []) (.fl 0 (.nil)) rfl ?_
    refine OKS.ra rfl rfl rfl rfl rfl rfl ?_
    refine OKS.e ?_
    refine thenQ_n ?_
    refine CK.ret ?_
    refine thenQ_r ?_
    cases hm875
    exact ⟨rfl, _, (res1 rfl), φ196, _, (hS205.pick [] _ (by decide) rfl), rfl, rfl⟩
  ·have hm876 := hm195; rw [if_neg c206] at hm876; replace c206 := Hid.mk c206
   refine OKS.p rfl rfl rfl (wantedN rfl rfl (decT c206.out) rfl) ?_
   refine OKS.p rfl rfl rfl (wantedN rfl rfl (decT c206.out) rfl) ?_
   refine OKS.p rfl rfl rfl (wantedN rfl rfl (decT c206.out) rfl) ?_
   refine OKS.p rfl rfl rfl (wantedN rfl rfl (decT c206.out) rfl) ?_
   refine OKS.p rfl rfl rfl (wantedN rfl rfl (decT c206.out) rfl) ?_
   refine OKS.r rfl rfl rfl rfl (fun _ => Runs.pickT rfl (decT c206.out) rfl) ?_
   refine OKS.e ?_
   refine thenQ_n ?_
   refine CK.condT rfl ?_
   refine CK.seq ?_
   refine CK.reg (ks := []) (.fl 0 (.nil)) rfl ?_
   refine OKS.ra rfl rfl rfl rfl rfl rfl ?_
   refine OKS.e ?_
   refine thenQ_n ?_
   refine CK.ret ?_
   refine thenQ_r ?_
   cases hm876
   exact ⟨rfl, _, (res1 rfl), φ196, _, (hS205.pick [] _ (by decide) rfl), rfl, rfl⟩
end Go.Proofs.YtfdnbaahdjlapaaGreat
