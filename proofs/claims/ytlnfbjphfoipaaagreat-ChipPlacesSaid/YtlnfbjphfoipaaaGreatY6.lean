import Derived.Test.YtlnfbjphfoipaaaGreatY1
import Derived.Test.YtlnfbjphfoipaaaGreatProg
import Derived.Test.YtlnfbjphfoipaaaGreatY5
import Derived.Test.YtlnfbjphfoipaaaGreatY4
set_option linter.all false
namespace Go.Proofs.YtlnfbjphfoipaaaGreat
open Go.KL
def wAB (x:wAP):List Value:=[.int .i64 x.Lo,.int .i64 x.Hi]
def wAD (x:wAb):List Value:=[.int .i64 x.Offset.Lo,.int .i64 x.Offset.Hi,.int .i64 x.Error]
def wAC (x:wAU):List Value:=[.int .i64 x.Skier,.int .i64 x.Mat,.int .i64 x.Clock,.int .i64 x.Time]
def wAG (x:wAt):List Value:=[.int .i64 x.Offset.Lo,.int .i64 x.Offset.Hi,.int .i64 x.Error]
def wAF (x:wAn):List Value:=[.int .i64 x.Skier,.int .i64 x.Mat,.int .i64 x.Clock,.int .i64 x.Time]
def wUE (U:PHeap) (x:Int) (vs:List Value):Prop:=vs=[.int .i64 x]
def wUF (U:PHeap) (L_:List Res) (v:Value) (y:Bool):Prop:=v=.bool y/\L_=[]
def wUG (U:PHeap) (x:wAP) (vs:List Value):Prop:=vs=[.agg #[.int .i64 x.Lo,.int .i64 x.Hi]]
def wUH (U:PHeap) (L_:List Res) (v:Value) (y:Bool):Prop:=v=.bool y/\L_=[]
def wUI (U:PHeap) (x:wAb) (vs:List Value):Prop:=vs=[.agg #[.int .i64 x.Offset.Lo,.int .i64 x.Offset.Hi,.int .i64 x.Error]]
def wUJ (U:PHeap) (L_:List Res) (v:Value) (y:Bool):Prop:=v=.bool y/\L_=[]
def wSU (U:PHeap) (x:wAU) (vs:List Value):Prop:=vs=[.agg #[.int .i64 x.Skier,.int .i64 x.Mat,.int .i64 x.Clock,.int .i64 x.Time]]
def wSV (U:PHeap) (L_:List Res) (v:Value) (y:Bool):Prop:=v=.bool y/\L_=[]
def wCm (x:wAM):List Value:=[.int .i64 x.Skier,.int .i64 x.Mat]
def wIL (x:wAE):List Value:=[.int .i64 x.skier,.int .i64 x.mat]
def wUK (U:PHeap) (x:wAJ) (vs:List Value):Prop:=vs=[.agg #[.int .i64 x.Kind,.int .i64 x.Skier,.int .i64 x.Index,.bool x.Up]]
def wBW (x:wAE):Value:=.agg #[.int .i64 x.skier,.int .i64 x.mat]
def wBb (x:Int):Value:=.int .i64 x
def wAa (x:wAd):List Value:=[.int .i64 x.step.Kind,.int .i64 x.step.Skier,.int .i64 x.step.Index,.bool x.step.Up,.int .i64 x.from_,.int .i64 x.to_,.int .i64 x.count]
def wSW (U:PHeap) (x:wAM) (vs:List Value):Prop:=vs=[.agg #[.int .i64 x.Skier,.int .i64 x.Mat]]
def wSX (U:PHeap) (L_:List Res) (v:Value) (y:Bool):Prop:=v=.bool y/\L_=[]
def wIM:Rl (List Int) where
 sz:=1
 r:=fun U x vs=>∃ (pA:Option Addr) (pc:Nat),vs=[.slice pA x.length pc]/\Sl U 1 pA pc x.length (List.flatMap KL.encI x)
 mono:=by rintro U U' x vs ⟨pA,pc,rfl,h0⟩ hl;exact ⟨pA,pc,rfl,h0.le hl⟩
 len:=by rintro U x vs ⟨_,_,rfl,_⟩;rfl
 one:=by rintro U x vs ⟨_,_,rfl,h0⟩;rfl
theorem Tryz.mixed:Tryz.prog.follows .mixedOrders=true:=by kernel_rfl
theorem wQU:wDj Tryz.prog 27 [(0,1),(1,1),(2,1),(3,1)]:=⟨_,Tryz.runUnderlying27,fun w=>by simp [Tryz.sizeOf22,Tryz.sizeOf23,Tryz.sizeOf24,Tryz.sizeOf25]⟩
theorem wMT:wDj Tryz.prog 29 [(0,1),(1,1)]:=⟨_,Tryz.runUnderlying29,fun w=>by simp [Tryz.sizeOf3]⟩
theorem wJn:wDj Tryz.prog 36 [(0,1),(1,1),(2,1),(3,1)]:=⟨_,Tryz.runUnderlying36,fun w=>by simp [Tryz.sizeOf22,Tryz.sizeOf23,Tryz.sizeOf33,Tryz.sizeOf34]⟩
theorem wMU:wDj Tryz.prog 39 [(0,1),(1,1)]:=⟨_,Tryz.runUnderlying39,fun w=>by simp [Tryz.sizeOf3]⟩
theorem wMV:wDj Tryz.prog 44 [(0,1),(1,1)]:=⟨_,Tryz.runUnderlying44,fun w=>by simp [Tryz.sizeOf3]⟩
theorem wHX:wDj Tryz.prog 93 [(0,1),(1,1),(2,1),(3,1)]:=⟨_,Tryz.runUnderlying93,fun w=>by simp [Tryz.sizeOf91,Tryz.sizeOf3,Tryz.sizeOf4]⟩
theorem wBX:wDj Tryz.prog 123 [(0,1),(1,1)]:=⟨_,Tryz.runUnderlying123,fun w=>by simp [Tryz.sizeOf3]⟩
theorem wKV:wDj Tryz.prog 133 [(0,1),(1,1)]:=⟨_,Tryz.runUnderlying133,fun w=>by simp [Tryz.sizeOf22]⟩
theorem wGV:wDj Tryz.prog 139 [(0,4),(4,1),(5,1)]:=⟨_,Tryz.runUnderlying139,fun w=>by simp [Tryz.sizeOf27,Tryz.sizeOf136,Tryz.sizeOf137]⟩
theorem wPM:wDj Tryz.prog 184 [(0,4),(4,1),(5,1),(6,1)]:=⟨_,Tryz.runUnderlying184,fun w=>by simp [Tryz.sizeOf93,Tryz.sizeOf3]⟩
theorem wPN:wDj Tryz.prog 188 [(0,1)]:=⟨_,Tryz.runUnderlying188,fun w=>by simp [Tryz.sizeOf49]⟩
theorem wGW:wDj Tryz.prog 200 [(0,1),(1,1),(2,1)]:=⟨_,Tryz.runUnderlying200,fun w=>by simp [Tryz.sizeOf196,Tryz.sizeOf197,Tryz.sizeOf198]⟩
theorem wLg:Tryz.prog.info? 3=some Tryz.t3:=by kernel_rfl
theorem wMW:Tryz.prog.info? 22=some Tryz.t22:=by kernel_rfl
theorem wPO:Tryz.prog.info? 39=some Tryz.t39:=by kernel_rfl
theorem wSY:Tryz.prog.info? 112=some Tryz.t112:=by kernel_rfl
theorem wSZ:Tryz.prog.info? 115=some Tryz.t115:=by kernel_rfl
theorem wSa:Tryz.prog.info? 116=some Tryz.t116:=by kernel_rfl
theorem wSb:Tryz.prog.info? 117=some Tryz.t117:=by kernel_rfl
theorem wLh:Tryz.prog.info? 184=some Tryz.t184:=by kernel_rfl
theorem wUL (d:Nat) (x y:wAP) (w:World):(Op.equalIn (d + 2) 39 (.agg (wAB x).toArray) (.agg (wAB y).toArray)).run Tryz.prog w=.ok (decide (x=y)) w:=by
 obtain ⟨x0,x1⟩:=x
 obtain ⟨y0,y1⟩:=y
 rw [run_equalIn_agg w (d + 1) 39 _ _ (wGl Tryz.runUnderlying39) (by kernel_rfl),wEq Tryz.runUnderlying39]
 by_cases h0:x0=y0 <;> by_cases h1:x1=y1 <;> simp [Op.eqFields,part,wAB,Result.andThen,Tryz.isAgg3,h0,run_equalIn_int _ (d + 0) 3 .i64 .i64 _ _ (wCI Tryz.runUnderlying3),h1]
theorem eqG39:Tryz.prog.eqGuardType Tryz.prog.depth 39=false:=by kernel_rfl
theorem eqT39:EqT Tryz.prog 39 wAB:=fun x y w=>by
 unfold Op.equal Op.maxDepth;exact wUL 9998 x y w
theorem wUM (d:Nat) (x y:wAb) (w:World):(Op.equalIn (d + 3) 112 (.agg (wAD x).toArray) (.agg (wAD y).toArray)).run Tryz.prog w=.ok (decide (x=y)) w:=by
 obtain ⟨x0,x1⟩:=x
 obtain ⟨y0,y1⟩:=y
 have e0:=fun w=>wUL (d + 0) x0 y0 w
 rw [run_equalIn_agg w (d + 2) 112 _ _ (wGl Tryz.runUnderlying112) (by kernel_rfl),wEq Tryz.runUnderlying112]
 by_cases h0:x0=y0 <;> by_cases h1:x1=y1 <;> simp only [h0,wAB,decide_true,decide_false] at e0 <;> simp [Op.eqFields,part,wAD,Result.andThen,Tryz.isAgg39,h0,e0,Tryz.sizeOf39,wAB,Tryz.isAgg3,h1,run_equalIn_int _ (d + 1) 3 .i64 .i64 _ _ (wCI Tryz.runUnderlying3)]
theorem wUN:Tryz.prog.eqGuardType Tryz.prog.depth 112=false:=by kernel_rfl
theorem wUO:EqT Tryz.prog 112 wAD:=fun x y w=>by
 unfold Op.equal Op.maxDepth;exact wUM 9997 x y w
theorem wUP (d:Nat) (x y:wAU) (w:World):(Op.equalIn (d + 2) 115 (.agg (wAC x).toArray) (.agg (wAC y).toArray)).run Tryz.prog w=.ok (decide (x=y)) w:=by
 obtain ⟨x0,x1,x2,x3⟩:=x
 obtain ⟨y0,y1,y2,y3⟩:=y
 rw [run_equalIn_agg w (d + 1) 115 _ _ (wGl Tryz.runUnderlying115) (by kernel_rfl),wEq Tryz.runUnderlying115]
 by_cases h0:x0=y0 <;> by_cases h1:x1=y1 <;> by_cases h2:x2=y2 <;> by_cases h3:x3=y3 <;> simp [Op.eqFields,part,wAC,Result.andThen,Tryz.isAgg3,h0,run_equalIn_int _ (d + 0) 3 .i64 .i64 _ _ (wCI Tryz.runUnderlying3),h1,h2,h3]
theorem wUQ:Tryz.prog.eqGuardType Tryz.prog.depth 115=false:=by kernel_rfl
theorem wUR:EqT Tryz.prog 115 wAC:=fun x y w=>by
 unfold Op.equal Op.maxDepth;exact wUP 9998 x y w
theorem wDf:KeyR Tryz.prog 123 wBW:=Two.keyR (k:=.i64) ⟨wCI Tryz.runUnderlying123,rfl,rfl,by decide,rfl,rfl,by decide,wCI Tryz.runUnderlying3,Tryz.isAgg3,by kernel_rfl⟩ wBW (·.skier) (·.mat) (fun _=>rfl) (fun x y h1 h2=>by cases x;cases y;cases h1;cases h2;rfl)
end Go.Proofs.YtlnfbjphfoipaaaGreat
