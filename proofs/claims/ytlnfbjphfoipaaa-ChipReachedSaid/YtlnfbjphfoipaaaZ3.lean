import Derived.Test.YtlnfbjphfoipaaaZ0
import Derived.Test.YtlnfbjphfoipaaaZ1
import Derived.Test.YtlnfbjphfoipaaaProg
import Derived.Test.YtlnfbjphfoipaaaZ2
set_option linter.all false
namespace Go.Proofs.Ytlnfbjphfoipaaa
open Go.KL
def wAG (x:wAJ):List Value:=[.int .i64 x.Lo,.int .i64 x.Hi]
def wHb:Rl (List Int) where
 sz:=1
 r:=fun U x vs=>∃ (pA:Option Addr) (pc:Nat),vs=[.slice pA x.length pc]/\Sl U 1 pA pc x.length (List.flatMap KL.encI x)
 mono:=by rintro U U' x vs ⟨pA,pc,rfl,h0⟩ hl;exact ⟨pA,pc,rfl,h0.le hl⟩
 len:=by rintro U x vs ⟨_,_,rfl,_⟩;rfl
 one:=by rintro U x vs ⟨_,_,rfl,h0⟩;rfl
def wAA (x:wAM):List Value:=[.int .i64 x.Offset.Lo,.int .i64 x.Offset.Hi,.int .i64 x.Error]
def wAB (x:wAL):List Value:=[.int .i64 x.Skier,.int .i64 x.Mat,.int .i64 x.Clock,.int .i64 x.Time]
def wKB (U:PHeap) (x:Int) (vs:List Value):Prop:=vs=[.int .i64 x]
def wKC (U:PHeap) (L_:List Res) (v:Value) (y:Bool):Prop:=v=.bool y/\L_=[]
def wMd (U:PHeap) (x:wAJ) (vs:List Value):Prop:=vs=[.agg #[.int .i64 x.Lo,.int .i64 x.Hi]]
def wMe (U:PHeap) (L_:List Res) (v:Value) (y:Bool):Prop:=v=.bool y/\L_=[]
def wMf (U:PHeap) (x:wAM) (vs:List Value):Prop:=vs=[.agg #[.int .i64 x.Offset.Lo,.int .i64 x.Offset.Hi,.int .i64 x.Error]]
def wMg (U:PHeap) (L_:List Res) (v:Value) (y:Bool):Prop:=v=.bool y/\L_=[]
def wJe (U:PHeap) (x:wAL) (vs:List Value):Prop:=vs=[.agg #[.int .i64 x.Skier,.int .i64 x.Mat,.int .i64 x.Clock,.int .i64 x.Time]]
def wJf (U:PHeap) (L_:List Res) (v:Value) (y:Bool):Prop:=v=.bool y/\L_=[]
def wAT (x:wAI):List Value:=[.int .i64 x.Skier,.int .i64 x.Mat]
def wBZ (x:wAH):List Value:=[.int .i64 x.skier,.int .i64 x.mat]
def wAQ (x:wAD):List Value:=[.int .i64 x.Kind,.int .i64 x.Skier,.int .i64 x.Index,.bool x.Up]
def wKD (U:PHeap) (x:wAD) (vs:List Value):Prop:=vs=[.agg #[.int .i64 x.Kind,.int .i64 x.Skier,.int .i64 x.Index,.bool x.Up]]
def wMh (U:PHeap) (L_:List Res) (v:Value) (y:Bool):Prop:=v=.bool y/\L_=[]
def wBB (x:wAH):Value:=.agg #[.int .i64 x.skier,.int .i64 x.mat]
def wBC (x:Int):Value:=.int .i64 x
def wAP (x:wAX):List Value:=[.int .i64 x.step.Kind,.int .i64 x.step.Skier,.int .i64 x.step.Index,.bool x.step.Up,.int .i64 x.from_,.int .i64 x.to_,.int .i64 x.count]
def wKE (U:PHeap) (x:List Int) (vs:List Value):Prop:=∃ (pA_0:Option Addr) (pc_0:Nat),vs=[.slice pA_0 x.length pc_0]/\Sl U 1 pA_0 pc_0 x.length (List.flatMap KL.encI x)
def wKF (U:PHeap) (L_:List Res) (v:Value) (y:Bool):Prop:=v=.bool y/\L_=[]
def wLd (U:PHeap) (x:wAI) (vs:List Value):Prop:=vs=[.agg #[.int .i64 x.Skier,.int .i64 x.Mat]]
def wLe (U:PHeap) (L_:List Res) (v:Value) (y:Bool):Prop:=v=.bool y/\L_=[]
def wKj (U:PHeap) (x:(Int × wAL)) (vs:List Value):Prop:=vs=[.int .i64 x.1,.agg #[.int .i64 x.2.Skier,.int .i64 x.2.Mat,.int .i64 x.2.Clock,.int .i64 x.2.Time]]
def wKk (U:PHeap) (L_:List Res) (v:Value) (y:Bool):Prop:=v=.bool y/\L_=[]
theorem Try.mixed:Try.prog.follows .mixedOrders=true:=by kernel_rfl
theorem wKl:wDZ Try.prog 28 [(0,1),(1,1),(2,1),(3,1)]:=⟨_,Try.runUnderlying28,fun w=>by simp [Try.sizeOf23,Try.sizeOf24,Try.sizeOf25,Try.sizeOf26]⟩
theorem wEl:wDZ Try.prog 39 [(0,1),(1,1),(2,1),(3,1)]:=⟨_,Try.runUnderlying39,fun w=>by simp [Try.sizeOf3]⟩
theorem wBo:wDZ Try.prog 41 [(0,1),(1,1)]:=⟨_,Try.runUnderlying41,fun w=>by simp [Try.sizeOf3]⟩
theorem wJH:wDZ Try.prog 43 [(0,2),(2,1)]:=⟨_,Try.runUnderlying43,fun w=>by simp [Try.sizeOf41,Try.sizeOf3]⟩
theorem wFF:wDZ Try.prog 45 [(0,1),(1,1)]:=⟨_,Try.runUnderlying45,fun w=>by simp [Try.sizeOf3]⟩
theorem wDo:wDZ Try.prog 78 [(0,1),(1,1),(2,1),(3,1)]:=⟨_,Try.runUnderlying78,fun w=>by simp [Try.sizeOf74,Try.sizeOf3,Try.sizeOf4]⟩
theorem wKm:wDZ Try.prog 94 [(0,1),(1,1),(2,1)]:=⟨_,Try.runUnderlying94,fun w=>by simp [Try.sizeOf22,Try.sizeOf3,Try.sizeOf92]⟩
theorem wBa:wDZ Try.prog 104 [(0,1),(1,1)]:=⟨_,Try.runUnderlying104,fun w=>by simp [Try.sizeOf3]⟩
theorem wHz:wDZ Try.prog 118 [(0,1),(1,1)]:=⟨_,Try.runUnderlying118,fun w=>by simp [Try.sizeOf23]⟩
theorem wFe:wDZ Try.prog 124 [(0,4),(4,1),(5,1)]:=⟨_,Try.runUnderlying124,fun w=>by simp [Try.sizeOf28,Try.sizeOf121,Try.sizeOf122]⟩
theorem wKG:wDZ Try.prog 130 [(0,4),(4,1),(5,1),(6,1)]:=⟨_,Try.runUnderlying130,fun w=>by simp [Try.sizeOf78,Try.sizeOf3]⟩
theorem wFf:wDZ Try.prog 169 [(0,1),(1,1),(2,1)]:=⟨_,Try.runUnderlying169,fun w=>by simp [Try.sizeOf165,Try.sizeOf166,Try.sizeOf167]⟩
theorem wIe:Try.prog.info? 3=some Try.t3:=by kernel_rfl
theorem wLN:Try.prog.info? 23=some Try.t23:=by kernel_rfl
theorem wKH:Try.prog.info? 39=some Try.t39:=by kernel_rfl
theorem wLO:Try.prog.info? 41=some Try.t41:=by kernel_rfl
theorem wJI:Try.prog.info? 43=some Try.t43:=by kernel_rfl
theorem wMi:Try.prog.info? 45=some Try.t45:=by kernel_rfl
theorem wMj:Try.prog.info? 78=some Try.t78:=by kernel_rfl
theorem wIf:Try.prog.info? 130=some Try.t130:=by kernel_rfl
theorem eqS41 (d:Nat) (x y:wAJ) (w:World):(Op.equalIn (d + 2) 41 (.agg (wAG x).toArray) (.agg (wAG y).toArray)).run Try.prog w=.ok (decide (x=y)) w:=by
 obtain ⟨x0,x1⟩:=x
 obtain ⟨y0,y1⟩:=y
 rw [run_equalIn_agg w (d + 1) 41 _ _ (wFy Try.runUnderlying41) (by kernel_rfl),wEi Try.runUnderlying41]
 by_cases h0:x0=y0 <;> by_cases h1:x1=y1 <;> simp [Op.eqFields,part,wAG,Result.andThen,Try.isAgg3,h0,run_equalIn_int _ (d + 0) 3 .i64 .i64 _ _ (wBV Try.runUnderlying3),h1]
theorem wKn:Try.prog.eqGuardType Try.prog.depth 41=false:=by kernel_rfl
theorem wKo:EqT Try.prog 41 wAG:=fun x y w=>by
 unfold Op.equal Op.maxDepth;exact eqS41 9998 x y w
theorem eqS45 (d:Nat) (x y:wAI) (w:World):(Op.equalIn (d + 2) 45 (.agg (wAT x).toArray) (.agg (wAT y).toArray)).run Try.prog w=.ok (decide (x=y)) w:=by
 obtain ⟨x0,x1⟩:=x
 obtain ⟨y0,y1⟩:=y
 rw [run_equalIn_agg w (d + 1) 45 _ _ (wFy Try.runUnderlying45) (by kernel_rfl),wEi Try.runUnderlying45]
 by_cases h0:x0=y0 <;> by_cases h1:x1=y1 <;> simp [Op.eqFields,part,wAT,Result.andThen,Try.isAgg3,h0,run_equalIn_int _ (d + 0) 3 .i64 .i64 _ _ (wBV Try.runUnderlying3),h1]
theorem wMk:Try.prog.eqGuardType Try.prog.depth 45=false:=by kernel_rfl
theorem wMl:EqT Try.prog 45 wAT:=fun x y w=>by
 unfold Op.equal Op.maxDepth;exact eqS45 9998 x y w
theorem wMm (d:Nat) (x y:wAH) (w:World):(Op.equalIn (d + 2) 104 (.agg (wBZ x).toArray) (.agg (wBZ y).toArray)).run Try.prog w=.ok (decide (x=y)) w:=by
 obtain ⟨x0,x1⟩:=x
 obtain ⟨y0,y1⟩:=y
 rw [run_equalIn_agg w (d + 1) 104 _ _ (wFy Try.runUnderlying104) (by kernel_rfl),wEi Try.runUnderlying104]
 by_cases h0:x0=y0 <;> by_cases h1:x1=y1 <;> simp [Op.eqFields,part,wBZ,Result.andThen,Try.isAgg3,h0,run_equalIn_int _ (d + 0) 3 .i64 .i64 _ _ (wBV Try.runUnderlying3),h1]
theorem wJJ:Try.prog.eqGuardType Try.prog.depth 104=false:=by kernel_rfl
theorem wJK:EqT Try.prog 104 wBZ:=fun x y w=>by
 unfold Op.equal Op.maxDepth;exact wMm 9998 x y w
theorem wCH:KeyR Try.prog 104 wBB:=Two.keyR (k:=.i64) ⟨wBV Try.runUnderlying104,rfl,rfl,by decide,rfl,rfl,by decide,wBV Try.runUnderlying3,Try.isAgg3,by kernel_rfl⟩ wBB (·.skier) (·.mat) (fun _=>rfl) (fun x y h1 h2=>by cases x;cases y;cases h1;cases h2;rfl)
end Go.Proofs.Ytlnfbjphfoipaaa
