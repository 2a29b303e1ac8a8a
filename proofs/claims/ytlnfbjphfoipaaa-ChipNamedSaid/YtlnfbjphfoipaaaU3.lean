import Derived.Test.YtlnfbjphfoipaaaU0
import Derived.Test.YtlnfbjphfoipaaaU1
import Derived.Test.YtlnfbjphfoipaaaProg
import Derived.Test.YtlnfbjphfoipaaaU2
set_option linter.all false
namespace Go.Proofs.Ytlnfbjphfoipaaa
open Go.KL
def wAC (x:wAG):List Value:=[.int .i64 x.Lo,.int .i64 x.Hi]
def wJE:Rl (List Int) where
 sz:=1
 r:=fun U x vs=>∃ (pA:Option Addr) (pc:Nat),vs=[.slice pA x.length pc]/\Sl U 1 pA pc x.length (List.flatMap KL.encI x)
 mono:=by rintro U U' x vs ⟨pA,pc,rfl,h0⟩ hl;exact ⟨pA,pc,rfl,h0.le hl⟩
 len:=by rintro U x vs ⟨_,_,rfl,_⟩;rfl
 one:=by rintro U x vs ⟨_,_,rfl,h0⟩;rfl
def wAB (x:wAK):List Value:=[.int .i64 x.Offset.Lo,.int .i64 x.Offset.Hi,.int .i64 x.Error]
def wAA (x:wAI):List Value:=[.int .i64 x.Skier,.int .i64 x.Mat,.int .i64 x.Clock,.int .i64 x.Time]
def wAU (x:wAO):List Value:=[.int .i64 x.Skier,.int .i64 x.Mat]
def ar76 (U:PHeap) (x:Int) (vs:List Value):Prop:=vs=[.int .i64 x]
def rr76 (U:PHeap) (L_:List Res) (v:Value) (y:Bool):Prop:=v=.bool y/\L_=[]
def wLy (U:PHeap) (x:wAG) (vs:List Value):Prop:=vs=[.agg #[.int .i64 x.Lo,.int .i64 x.Hi]]
def wLz (U:PHeap) (L_:List Res) (v:Value) (y:Bool):Prop:=v=.bool y/\L_=[]
def wMA (U:PHeap) (x:wAK) (vs:List Value):Prop:=vs=[.agg #[.int .i64 x.Offset.Lo,.int .i64 x.Offset.Hi,.int .i64 x.Error]]
def wMB (U:PHeap) (L_:List Res) (v:Value) (y:Bool):Prop:=v=.bool y/\L_=[]
def wIl (U:PHeap) (x:wAI) (vs:List Value):Prop:=vs=[.agg #[.int .i64 x.Skier,.int .i64 x.Mat,.int .i64 x.Clock,.int .i64 x.Time]]
def wIm (U:PHeap) (L_:List Res) (v:Value) (y:Bool):Prop:=v=.bool y/\L_=[]
def wBX (x:wAL):List Value:=[.int .i64 x.skier,.int .i64 x.mat]
def wBV (x:wAJ):List Value:=[.int .i64 x.Kind,.int .i64 x.Skier,.int .i64 x.Index,.bool x.Up]
def wKJ (U:PHeap) (x:wAJ) (vs:List Value):Prop:=vs=[.agg #[.int .i64 x.Kind,.int .i64 x.Skier,.int .i64 x.Index,.bool x.Up]]
def wMC (U:PHeap) (L_:List Res) (v:Value) (y:Bool):Prop:=v=.bool y/\L_=[]
def wBC (x:wAL):Value:=.agg #[.int .i64 x.skier,.int .i64 x.mat]
def wBJ (x:Int):Value:=.int .i64 x
def wAR (x:wAX):List Value:=[.int .i64 x.step.Kind,.int .i64 x.step.Skier,.int .i64 x.step.Index,.bool x.step.Up,.int .i64 x.from_,.int .i64 x.to_,.int .i64 x.count]
def wLF (U:PHeap) (x:wAO) (vs:List Value):Prop:=vs=[.agg #[.int .i64 x.Skier,.int .i64 x.Mat]]
def wLG (U:PHeap) (L_:List Res) (v:Value) (y:Bool):Prop:=v=.bool y/\L_=[]
def wKK (U:PHeap) (x:(Int × wAI)) (vs:List Value):Prop:=vs=[.int .i64 x.1,.agg #[.int .i64 x.2.Skier,.int .i64 x.2.Mat,.int .i64 x.2.Clock,.int .i64 x.2.Time]]
def wKL (U:PHeap) (L_:List Res) (v:Value) (y:Bool):Prop:=v=.bool y/\L_=[]
theorem Try.mixed:Try.prog.follows .mixedOrders=true:=by kernel_rfl
theorem wIN:wDJ Try.prog 28 [(0,1),(1,1),(2,1),(3,1)]:=⟨_,Try.runUnderlying28,fun w=>by simp [Try.sizeOf23,Try.sizeOf24,Try.sizeOf25,Try.sizeOf26]⟩
theorem wEI:wDJ Try.prog 39 [(0,1),(1,1),(2,1),(3,1)]:=⟨_,Try.runUnderlying39,fun w=>by simp [Try.sizeOf3]⟩
theorem wBy:wDJ Try.prog 41 [(0,1),(1,1)]:=⟨_,Try.runUnderlying41,fun w=>by simp [Try.sizeOf3]⟩
theorem wIO:wDJ Try.prog 43 [(0,2),(2,1)]:=⟨_,Try.runUnderlying43,fun w=>by simp [Try.sizeOf41,Try.sizeOf3]⟩
theorem wEf:wDJ Try.prog 45 [(0,1),(1,1)]:=⟨_,Try.runUnderlying45,fun w=>by simp [Try.sizeOf3]⟩
theorem wDS:wDJ Try.prog 78 [(0,1),(1,1),(2,1),(3,1)]:=⟨_,Try.runUnderlying78,fun w=>by simp [Try.sizeOf74,Try.sizeOf3,Try.sizeOf4]⟩
theorem wKM:wDJ Try.prog 94 [(0,1),(1,1),(2,1)]:=⟨_,Try.runUnderlying94,fun w=>by simp [Try.sizeOf22,Try.sizeOf3,Try.sizeOf92]⟩
theorem wBL:wDJ Try.prog 104 [(0,1),(1,1)]:=⟨_,Try.runUnderlying104,fun w=>by simp [Try.sizeOf3]⟩
theorem wHW:wDJ Try.prog 118 [(0,1),(1,1)]:=⟨_,Try.runUnderlying118,fun w=>by simp [Try.sizeOf23]⟩
theorem wFK:wDJ Try.prog 124 [(0,4),(4,1),(5,1)]:=⟨_,Try.runUnderlying124,fun w=>by simp [Try.sizeOf28,Try.sizeOf121,Try.sizeOf122]⟩
theorem wJU:wDJ Try.prog 130 [(0,4),(4,1),(5,1),(6,1)]:=⟨_,Try.runUnderlying130,fun w=>by simp [Try.sizeOf78,Try.sizeOf3]⟩
theorem wFL:wDJ Try.prog 169 [(0,1),(1,1),(2,1)]:=⟨_,Try.runUnderlying169,fun w=>by simp [Try.sizeOf165,Try.sizeOf166,Try.sizeOf167]⟩
theorem wGx:Try.prog.info? 3=some Try.t3:=by kernel_rfl
theorem wKm:Try.prog.info? 23=some Try.t23:=by kernel_rfl
theorem wHX:Try.prog.info? 39=some Try.t39:=by kernel_rfl
theorem wJV:Try.prog.info? 41=some Try.t41:=by kernel_rfl
theorem wHY:Try.prog.info? 43=some Try.t43:=by kernel_rfl
theorem wMD:Try.prog.info? 45=some Try.t45:=by kernel_rfl
theorem wHt:Try.prog.info? 130=some Try.t130:=by kernel_rfl
theorem eqS41 (d:Nat) (x y:wAG) (w:World):(Op.equalIn (d + 2) 41 (.agg (wAC x).toArray) (.agg (wAC y).toArray)).run Try.prog w=.ok (decide (x=y)) w:=by
 obtain ⟨x0,x1⟩:=x
 obtain ⟨y0,y1⟩:=y
 rw [run_equalIn_agg w (d + 1) 41 _ _ (wFX Try.runUnderlying41) (by kernel_rfl),wEG Try.runUnderlying41]
 by_cases h0:x0=y0 <;> by_cases h1:x1=y1 <;> simp [Op.eqFields,part,wAC,Result.andThen,Try.isAgg3,h0,run_equalIn_int _ (d + 0) 3 .i64 .i64 _ _ (wBh Try.runUnderlying3),h1]
theorem wGy:Try.prog.eqGuardType Try.prog.depth 41=false:=by kernel_rfl
theorem wGz:EqT Try.prog 41 wAC:=fun x y w=>by
 unfold Op.equal Op.maxDepth;exact eqS41 9998 x y w
theorem eqS45 (d:Nat) (x y:wAO) (w:World):(Op.equalIn (d + 2) 45 (.agg (wAU x).toArray) (.agg (wAU y).toArray)).run Try.prog w=.ok (decide (x=y)) w:=by
 obtain ⟨x0,x1⟩:=x
 obtain ⟨y0,y1⟩:=y
 rw [run_equalIn_agg w (d + 1) 45 _ _ (wFX Try.runUnderlying45) (by kernel_rfl),wEG Try.runUnderlying45]
 by_cases h0:x0=y0 <;> by_cases h1:x1=y1 <;> simp [Op.eqFields,part,wAU,Result.andThen,Try.isAgg3,h0,run_equalIn_int _ (d + 0) 3 .i64 .i64 _ _ (wBh Try.runUnderlying3),h1]
theorem wME:Try.prog.eqGuardType Try.prog.depth 45=false:=by kernel_rfl
theorem wMF:EqT Try.prog 45 wAU:=fun x y w=>by
 unfold Op.equal Op.maxDepth;exact eqS45 9998 x y w
theorem wMG (d:Nat) (x y:wAL) (w:World):(Op.equalIn (d + 2) 104 (.agg (wBX x).toArray) (.agg (wBX y).toArray)).run Try.prog w=.ok (decide (x=y)) w:=by
 obtain ⟨x0,x1⟩:=x
 obtain ⟨y0,y1⟩:=y
 rw [run_equalIn_agg w (d + 1) 104 _ _ (wFX Try.runUnderlying104) (by kernel_rfl),wEG Try.runUnderlying104]
 by_cases h0:x0=y0 <;> by_cases h1:x1=y1 <;> simp [Op.eqFields,part,wBX,Result.andThen,Try.isAgg3,h0,run_equalIn_int _ (d + 0) 3 .i64 .i64 _ _ (wBh Try.runUnderlying3),h1]
theorem wJW:Try.prog.eqGuardType Try.prog.depth 104=false:=by kernel_rfl
theorem wJX:EqT Try.prog 104 wBX:=fun x y w=>by
 unfold Op.equal Op.maxDepth;exact wMG 9998 x y w
theorem wCi:KeyR Try.prog 104 wBC:=Two.keyR (k:=.i64) ⟨wBh Try.runUnderlying104,rfl,rfl,by decide,rfl,rfl,by decide,wBh Try.runUnderlying3,Try.isAgg3,by kernel_rfl⟩ wBC (·.skier) (·.mat) (fun _=>rfl) (fun x y h1 h2=>by cases x;cases y;cases h1;cases h2;rfl)
end Go.Proofs.Ytlnfbjphfoipaaa
