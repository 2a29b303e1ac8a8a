import Derived.Test.YtjfffcjjlnmneaaGreatZ1
import Derived.Test.YtjfffcjjlnmneaaGreatProg
import Derived.Test.YtjfffcjjlnmneaaGreatZ3
import Derived.Test.YtjfffcjjlnmneaaGreatZ4
namespace Go.Proofs.YtjfffcjjlnmneaaGreat
open Go.KL
def rl52:Rl (List Bool) where
  sz:=1
  r:=fun φ x vs=>∃ (pA:Option Addr) (pc:Nat),vs=[.slice pA x.length pc]∧Sl φ 1 pA pc x.length (List.flatMap KL.encT x)
  mono:=by rintro φ φ' x vs ⟨pA,pc,rfl,h0⟩ hl;exact ⟨pA,pc,rfl,h0.le hl⟩
  len:=by rintro φ x vs ⟨_,_,rfl,_⟩;rfl
  one:=by rintro φ x vs ⟨_,_,rfl,h0⟩;rfl
def rl47:Rl T_relay_Leg where
  sz:=3
  r:=fun φ x vs=>∃ (pA_1:Option Addr) (pc_1:Nat) (pA_2:Option Addr) (pc_2:Nat),vs=[.int .i64 x.Skier,.slice pA_1 x.Loops.length pc_1,.slice pA_2 x.Bouts.length pc_2]∧Sl φ 1 pA_1 pc_1 x.Loops.length (List.flatMap KL.encI x.Loops)∧SlR φ rl52 pA_2 pc_2 x.Bouts
  mono:=by rintro φ φ' x vs ⟨pA_1,pc_1,pA_2,pc_2,rfl,h0,h1⟩ hl;exact ⟨pA_1,pc_1,pA_2,pc_2,rfl,h0.le hl,h1.le hl⟩
  len:=by rintro φ x vs ⟨_,_,_,_,rfl,_,_⟩;rfl
  one:=by rintro φ x vs ⟨_,_,_,_,rfl,h0,h1⟩;rfl
def rl44:Rl T_relay_Team where
  sz:=3
  r:=fun φ x vs=>∃ (pA_1:Option Addr) (pc_1:Nat) (pA_2:Option Addr) (pc_2:Nat),vs=[.int .i64 x.Bib,.slice pA_1 x.Classes.length pc_1,.slice pA_2 x.Legs.length pc_2]∧Sl φ 1 pA_1 pc_1 x.Classes.length (List.flatMap KL.encI x.Classes)∧SlR φ rl47 pA_2 pc_2 x.Legs
  mono:=by rintro φ φ' x vs ⟨pA_1,pc_1,pA_2,pc_2,rfl,h0,h1⟩ hl;exact ⟨pA_1,pc_1,pA_2,pc_2,rfl,h0.le hl,h1.le hl⟩
  len:=by rintro φ x vs ⟨_,_,_,_,rfl,_,_⟩;rfl
  one:=by rintro φ x vs ⟨_,_,_,_,rfl,h0,h1⟩;rfl
def ar190 (φ:PHeap) (x:Int) (vs:List Value):Prop:=vs=[.int .i64 x]
def rr190 (φ:PHeap) (L_:List Res) (v:Value) (y:Bool):Prop:=v=.bool y∧L_=[]
def ar281 (φ:PHeap) (x:T_relay_Rules) (vs:List Value):Prop:=∃ (pA_0_0:Option Addr) (pc_0_0:Nat),vs=[.agg #[.slice pA_0_0 x.Classes.length pc_0_0,.int .i64 x.Each,.int .i64 x.Laps,.int .i64 x.Spare,.int .i64 x.Loop,.int .i64 x.Unused]]∧Sl φ 1 pA_0_0 pc_0_0 x.Classes.length (List.flatMap KL.encI x.Classes)
def rr281 (φ:PHeap) (L_:List Res) (v:Value) (y:Int):Prop:=v=.int .i64 y∧L_=[]
def rl283:Rl T_relay_limit where
  sz:=3
  r:=fun φ x vs=>∃ (pv_0:Value),vs=[pv_0,.int .i64 x.lo,.int .i64 x.hi]∧FnOK Tryz.prog φ pv_0 ar281 rr281 x.of
  mono:=by rintro φ φ' x vs ⟨pv_0,rfl,h0⟩ hl;exact ⟨pv_0,rfl,h0.le hl⟩
  len:=by rintro φ x vs ⟨_,rfl,_⟩;rfl
  one:=by rintro φ x vs ⟨_,rfl,h0⟩;obtain ⟨_,_,_,rfl,_⟩:=h0;rfl
def ar286 (φ:PHeap) (x:T_relay_limit) (vs:List Value):Prop:=∃ (pv_0_0:Value),vs=[.agg #[pv_0_0,.int .i64 x.lo,.int .i64 x.hi]]∧FnOK Tryz.prog φ pv_0_0 ar281 rr281 x.of
def rr286 (φ:PHeap) (L_:List Res) (v:Value) (y:Bool):Prop:=v=.bool y∧L_=[]
def ar113 (φ:PHeap) (x:T_relay_Team) (vs:List Value):Prop:=∃ (pA_0_1:Option Addr) (pc_0_1:Nat) (pA_0_2:Option Addr) (pc_0_2:Nat),vs=[.agg #[.int .i64 x.Bib,.slice pA_0_1 x.Classes.length pc_0_1,.slice pA_0_2 x.Legs.length pc_0_2]]∧Sl φ 1 pA_0_1 pc_0_1 x.Classes.length (List.flatMap KL.encI x.Classes)∧SlR φ rl47 pA_0_2 pc_0_2 x.Legs
def rr113 (φ:PHeap) (L_:List Res) (v:Value) (y:Bool):Prop:=v=.bool y∧L_=[]
def ar287 (φ:PHeap) (x:(T_relay_Team × T_relay_Leg)) (vs:List Value):Prop:=∃ (pA_0_1:Option Addr) (pc_0_1:Nat) (pA_0_2:Option Addr) (pc_0_2:Nat) (pA_1_1:Option Addr) (pc_1_1:Nat) (pA_1_2:Option Addr) (pc_1_2:Nat),vs=[.agg #[.int .i64 x.1.Bib,.slice pA_0_1 x.1.Classes.length pc_0_1,.slice pA_0_2 x.1.Legs.length pc_0_2],.agg #[.int .i64 x.2.Skier,.slice pA_1_1 x.2.Loops.length pc_1_1,.slice pA_1_2 x.2.Bouts.length pc_1_2]]∧Sl φ 1 pA_0_1 pc_0_1 x.1.Classes.length (List.flatMap KL.encI x.1.Classes)∧SlR φ rl47 pA_0_2 pc_0_2 x.1.Legs∧Sl φ 1 pA_1_1 pc_1_1 x.2.Loops.length (List.flatMap KL.encI x.2.Loops)∧SlR φ rl52 pA_1_2 pc_1_2 x.2.Bouts
def mk207 (x:Int):Value:=.int .i64 x
def mv207 (x:Bool):Value:=.bool x
def rl23:Rl (List Int) where
  sz:=1
  r:=fun φ x vs=>∃ (pA:Option Addr) (pc:Nat),vs=[.slice pA x.length pc]∧Sl φ 1 pA pc x.length (List.flatMap KL.encI x)
  mono:=by rintro φ φ' x vs ⟨pA,pc,rfl,h0⟩ hl;exact ⟨pA,pc,rfl,h0.le hl⟩
  len:=by rintro φ x vs ⟨_,_,rfl,_⟩;rfl
  one:=by rintro φ x vs ⟨_,_,rfl,h0⟩;rfl
def ar202 (φ:PHeap) (x:List Int) (vs:List Value):Prop:=∃ (pA_0:Option Addr) (pc_0:Nat),vs=[.slice pA_0 x.length pc_0]∧Sl φ 1 pA_0 pc_0 x.length (List.flatMap KL.encI x)
def rr202 (φ:PHeap) (L_:List Res) (v:Value) (y:Bool):Prop:=v=.bool y∧L_=[]
theorem Tryz.mixed:Tryz.prog.follows .mixedOrders=true:=by kernel_rfl
theorem places25:PlacesT Tryz.prog 25 [(0,1),(1,1),(2,1),(3,1),(4,1),(5,1)]:=⟨_,Tryz.runUnderlying25,fun w=>by simp [Tryz.sizeOf23,Tryz.sizeOf3]⟩
theorem places28:PlacesT Tryz.prog 28 [(0,6),(6,1),(7,1)]:=⟨_,Tryz.runUnderlying28,fun w=>by simp [Tryz.sizeOf25,Tryz.sizeOf3,Tryz.sizeOf26]⟩
theorem places34:PlacesT Tryz.prog 34 [(0,1),(1,1),(2,1)]:=⟨_,Tryz.runUnderlying34,fun w=>by simp [Tryz.sizeOf3,Tryz.sizeOf23,Tryz.sizeOf32]⟩
theorem places44:PlacesT Tryz.prog 44 [(0,1),(1,1),(2,1)]:=⟨_,Tryz.runUnderlying44,fun w=>by simp [Tryz.sizeOf3,Tryz.sizeOf23,Tryz.sizeOf42]⟩
theorem places47:PlacesT Tryz.prog 47 [(0,1),(1,1),(2,1)]:=⟨_,Tryz.runUnderlying47,fun w=>by simp [Tryz.sizeOf3,Tryz.sizeOf23,Tryz.sizeOf45]⟩
theorem places49:PlacesT Tryz.prog 49 [(0,1),(1,1),(2,1)]:=⟨_,Tryz.runUnderlying49,fun w=>by simp [Tryz.sizeOf3]⟩
theorem places194:PlacesT Tryz.prog 194 [(0,1),(1,1),(2,1)]:=⟨_,Tryz.runUnderlying194,fun w=>by simp [Tryz.sizeOf22,Tryz.sizeOf3,Tryz.sizeOf192]⟩
theorem places245:PlacesT Tryz.prog 245 [(0,8),(8,1)]:=⟨_,Tryz.runUnderlying245,fun w=>by simp [Tryz.sizeOf28,Tryz.sizeOf32]⟩
theorem places283:PlacesT Tryz.prog 283 [(0,1),(1,1),(2,1)]:=⟨_,Tryz.runUnderlying283,fun w=>by simp [Tryz.sizeOf281,Tryz.sizeOf3]⟩
theorem info3:Tryz.prog.info? 3=some Tryz.t3:=by kernel_rfl
theorem info4:Tryz.prog.info? 4=some Tryz.t4:=by kernel_rfl
theorem info23:Tryz.prog.info? 23=some Tryz.t23:=by kernel_rfl
theorem info44:Tryz.prog.info? 44=some Tryz.t44:=by kernel_rfl
theorem info47:Tryz.prog.info? 47=some Tryz.t47:=by kernel_rfl
theorem info52:Tryz.prog.info? 52=some Tryz.t52:=by kernel_rfl
theorem keyR207:KeyR Tryz.prog 3 mk207:=KeyR.ofInt (und_of Tryz.runUnderlying3)
end Go.Proofs.YtjfffcjjlnmneaaGreat
