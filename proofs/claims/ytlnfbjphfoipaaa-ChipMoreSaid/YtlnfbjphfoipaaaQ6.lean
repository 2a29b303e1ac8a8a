import Derived.Test.YtlnfbjphfoipaaaQ0
import Derived.Test.YtlnfbjphfoipaaaQ3
import Derived.Test.YtlnfbjphfoipaaaProg
import Derived.Test.YtlnfbjphfoipaaaQ5
import Derived.Test.YtlnfbjphfoipaaaQ4
set_option linter.all false
namespace Go.Proofs.Ytlnfbjphfoipaaa
open Go.KL
def wAC (x:wAF):List Value:=[.int .i64 x.Lo,.int .i64 x.Hi]
def wJI:Rl (List Int) where
 sz:=1
 r:=fun U x vs=>∃ (pA:Option Addr) (pc:Nat),vs=[.slice pA x.length pc]/\Sl U 1 pA pc x.length (List.flatMap KL.encI x)
 mono:=by rintro U U' x vs ⟨pA,pc,rfl,h0⟩ hl;exact ⟨pA,pc,rfl,h0.le hl⟩
 len:=by rintro U x vs ⟨_,_,rfl,_⟩;rfl
 one:=by rintro U x vs ⟨_,_,rfl,h0⟩;rfl
def wAA (x:wAG):List Value:=[.int .i64 x.Offset.Lo,.int .i64 x.Offset.Hi,.int .i64 x.Error]
def wAB (x:wAJ):List Value:=[.int .i64 x.Skier,.int .i64 x.Mat,.int .i64 x.Clock,.int .i64 x.Time]
def wAT (x:wAP):List Value:=[.int .i64 x.Skier,.int .i64 x.Mat]
def ar76 (U:PHeap) (x:Int) (vs:List Value):Prop:=vs=[.int .i64 x]
def rr76 (U:PHeap) (L_:List Res) (v:Value) (y:Bool):Prop:=v=.bool y/\L_=[]
def wMG (U:PHeap) (x:wAF) (vs:List Value):Prop:=vs=[.agg #[.int .i64 x.Lo,.int .i64 x.Hi]]
def wMH (U:PHeap) (L_:List Res) (v:Value) (y:Bool):Prop:=v=.bool y/\L_=[]
def wMI (U:PHeap) (x:wAG) (vs:List Value):Prop:=vs=[.agg #[.int .i64 x.Offset.Lo,.int .i64 x.Offset.Hi,.int .i64 x.Error]]
def wMJ (U:PHeap) (L_:List Res) (v:Value) (y:Bool):Prop:=v=.bool y/\L_=[]
def wIx (U:PHeap) (x:wAJ) (vs:List Value):Prop:=vs=[.agg #[.int .i64 x.Skier,.int .i64 x.Mat,.int .i64 x.Clock,.int .i64 x.Time]]
def wIy (U:PHeap) (L_:List Res) (v:Value) (y:Bool):Prop:=v=.bool y/\L_=[]
def wBa (x:wAL):List Value:=[.int .i64 x.skier,.int .i64 x.mat]
def wBX (x:wAK):List Value:=[.int .i64 x.Kind,.int .i64 x.Skier,.int .i64 x.Index,.bool x.Up]
def wKI (U:PHeap) (x:wAK) (vs:List Value):Prop:=vs=[.agg #[.int .i64 x.Kind,.int .i64 x.Skier,.int .i64 x.Index,.bool x.Up]]
def wMK (U:PHeap) (L_:List Res) (v:Value) (y:Bool):Prop:=v=.bool y/\L_=[]
def wBD (x:wAL):Value:=.agg #[.int .i64 x.skier,.int .i64 x.mat]
def wBJ (x:Int):Value:=.int .i64 x
def wAQ (x:wAW):List Value:=[.int .i64 x.step.Kind,.int .i64 x.step.Skier,.int .i64 x.step.Index,.bool x.step.Up,.int .i64 x.from_,.int .i64 x.to_,.int .i64 x.count]
def wLK (U:PHeap) (x:wAP) (vs:List Value):Prop:=vs=[.agg #[.int .i64 x.Skier,.int .i64 x.Mat]]
def wLL (U:PHeap) (L_:List Res) (v:Value) (y:Bool):Prop:=v=.bool y/\L_=[]
def wIz (U:PHeap) (x:(Int × wAJ)) (vs:List Value):Prop:=vs=[.int .i64 x.1,.agg #[.int .i64 x.2.Skier,.int .i64 x.2.Mat,.int .i64 x.2.Clock,.int .i64 x.2.Time]]
def wJA (U:PHeap) (L_:List Res) (v:Value) (y:Bool):Prop:=v=.bool y/\L_=[]
theorem Try.mixed:Try.prog.follows .mixedOrders=true:=by kernel_rfl
theorem wIY:wDI Try.prog 28 [(0,1),(1,1),(2,1),(3,1)]:=⟨_,Try.runUnderlying28,fun w=>by simp [Try.sizeOf23,Try.sizeOf24,Try.sizeOf25,Try.sizeOf26]⟩
theorem wDD:wDI Try.prog 39 [(0,1),(1,1),(2,1),(3,1)]:=⟨_,Try.runUnderlying39,fun w=>by simp [Try.sizeOf3]⟩
theorem wBd:wDI Try.prog 41 [(0,1),(1,1)]:=⟨_,Try.runUnderlying41,fun w=>by simp [Try.sizeOf3]⟩
theorem wIZ:wDI Try.prog 43 [(0,2),(2,1)]:=⟨_,Try.runUnderlying43,fun w=>by simp [Try.sizeOf41,Try.sizeOf3]⟩
theorem wEg:wDI Try.prog 45 [(0,1),(1,1)]:=⟨_,Try.runUnderlying45,fun w=>by simp [Try.sizeOf3]⟩
theorem wDS:wDI Try.prog 78 [(0,1),(1,1),(2,1),(3,1)]:=⟨_,Try.runUnderlying78,fun w=>by simp [Try.sizeOf74,Try.sizeOf3,Try.sizeOf4]⟩
theorem wKJ:wDI Try.prog 94 [(0,1),(1,1),(2,1)]:=⟨_,Try.runUnderlying94,fun w=>by simp [Try.sizeOf22,Try.sizeOf3,Try.sizeOf92]⟩
theorem wBO:wDI Try.prog 104 [(0,1),(1,1)]:=⟨_,Try.runUnderlying104,fun w=>by simp [Try.sizeOf3]⟩
theorem wHV:wDI Try.prog 118 [(0,1),(1,1)]:=⟨_,Try.runUnderlying118,fun w=>by simp [Try.sizeOf23]⟩
theorem wFG:wDI Try.prog 124 [(0,4),(4,1),(5,1)]:=⟨_,Try.runUnderlying124,fun w=>by simp [Try.sizeOf28,Try.sizeOf121,Try.sizeOf122]⟩
theorem wJb:wDI Try.prog 130 [(0,4),(4,1),(5,1),(6,1)]:=⟨_,Try.runUnderlying130,fun w=>by simp [Try.sizeOf78,Try.sizeOf3]⟩
theorem wFH:wDI Try.prog 169 [(0,1),(1,1),(2,1)]:=⟨_,Try.runUnderlying169,fun w=>by simp [Try.sizeOf165,Try.sizeOf166,Try.sizeOf167]⟩
theorem wGu:Try.prog.info? 3=some Try.t3:=by kernel_rfl
theorem wKs:Try.prog.info? 23=some Try.t23:=by kernel_rfl
theorem wHW:Try.prog.info? 39=some Try.t39:=by kernel_rfl
theorem wJc:Try.prog.info? 41=some Try.t41:=by kernel_rfl
theorem wHX:Try.prog.info? 43=some Try.t43:=by kernel_rfl
theorem wML:Try.prog.info? 45=some Try.t45:=by kernel_rfl
theorem wIB:Try.prog.info? 130=some Try.t130:=by kernel_rfl
theorem eqS41 (d:Nat) (x y:wAF) (w:World):(Op.equalIn (d + 2) 41 (.agg (wAC x).toArray) (.agg (wAC y).toArray)).run Try.prog w=.ok (decide (x=y)) w:=by
 obtain ⟨x0,x1⟩:=x
 obtain ⟨y0,y1⟩:=y
 rw [run_equalIn_agg w (d + 1) 41 _ _ (wFV Try.runUnderlying41) (by kernel_rfl),wEH Try.runUnderlying41]
 by_cases h0:x0=y0 <;> by_cases h1:x1=y1 <;> simp [Op.eqFields,part,wAC,Result.andThen,Try.isAgg3,h0,run_equalIn_int _ (d + 0) 3 .i64 .i64 _ _ (wBj Try.runUnderlying3),h1]
theorem wHY:Try.prog.eqGuardType Try.prog.depth 41=false:=by kernel_rfl
theorem wHZ:EqT Try.prog 41 wAC:=fun x y w=>by
 unfold Op.equal Op.maxDepth;exact eqS41 9998 x y w
theorem eqS45 (d:Nat) (x y:wAP) (w:World):(Op.equalIn (d + 2) 45 (.agg (wAT x).toArray) (.agg (wAT y).toArray)).run Try.prog w=.ok (decide (x=y)) w:=by
 obtain ⟨x0,x1⟩:=x
 obtain ⟨y0,y1⟩:=y
 rw [run_equalIn_agg w (d + 1) 45 _ _ (wFV Try.runUnderlying45) (by kernel_rfl),wEH Try.runUnderlying45]
 by_cases h0:x0=y0 <;> by_cases h1:x1=y1 <;> simp [Op.eqFields,part,wAT,Result.andThen,Try.isAgg3,h0,run_equalIn_int _ (d + 0) 3 .i64 .i64 _ _ (wBj Try.runUnderlying3),h1]
theorem wMM:Try.prog.eqGuardType Try.prog.depth 45=false:=by kernel_rfl
theorem wMN:EqT Try.prog 45 wAT:=fun x y w=>by
 unfold Op.equal Op.maxDepth;exact eqS45 9998 x y w
theorem wMO (d:Nat) (x y:wAL) (w:World):(Op.equalIn (d + 2) 104 (.agg (wBa x).toArray) (.agg (wBa y).toArray)).run Try.prog w=.ok (decide (x=y)) w:=by
 obtain ⟨x0,x1⟩:=x
 obtain ⟨y0,y1⟩:=y
 rw [run_equalIn_agg w (d + 1) 104 _ _ (wFV Try.runUnderlying104) (by kernel_rfl),wEH Try.runUnderlying104]
 by_cases h0:x0=y0 <;> by_cases h1:x1=y1 <;> simp [Op.eqFields,part,wBa,Result.andThen,Try.isAgg3,h0,run_equalIn_int _ (d + 0) 3 .i64 .i64 _ _ (wBj Try.runUnderlying3),h1]
theorem wJd:Try.prog.eqGuardType Try.prog.depth 104=false:=by kernel_rfl
theorem wJe:EqT Try.prog 104 wBa:=fun x y w=>by
 unfold Op.equal Op.maxDepth;exact wMO 9998 x y w
theorem wCp:KeyR Try.prog 104 wBD:=Two.keyR (k:=.i64) ⟨wBj Try.runUnderlying104,rfl,rfl,by decide,rfl,rfl,by decide,wBj Try.runUnderlying3,Try.isAgg3,by kernel_rfl⟩ wBD (·.skier) (·.mat) (fun _=>rfl) (fun x y h1 h2=>by cases x;cases y;cases h1;cases h2;rfl)
end Go.Proofs.Ytlnfbjphfoipaaa
