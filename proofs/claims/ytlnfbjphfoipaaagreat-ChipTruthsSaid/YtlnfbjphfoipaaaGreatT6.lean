import Derived.Test.YtlnfbjphfoipaaaGreatT1
import Derived.Test.YtlnfbjphfoipaaaGreatProg
import Derived.Test.YtlnfbjphfoipaaaGreatT5
import Derived.Test.YtlnfbjphfoipaaaGreatT4
set_option linter.all false
namespace Go.Proofs.YtlnfbjphfoipaaaGreat
open Go.KL
def wAB (x:wAX):List Value:=[.int .i64 x.Lo,.int .i64 x.Hi]
def wAD (x:wAZ):List Value:=[.int .i64 x.Offset.Lo,.int .i64 x.Offset.Hi,.int .i64 x.Error]
def wAC (x:wAO):List Value:=[.int .i64 x.Skier,.int .i64 x.Mat,.int .i64 x.Clock,.int .i64 x.Time]
def wEx:Rl (List Int) where
 sz:=1
 r:=fun U x vs=>∃ (pA:Option Addr) (pc:Nat),vs=[.slice pA x.length pc]/\Sl U 1 pA pc x.length (List.flatMap KL.encI x)
 mono:=by rintro U U' x vs ⟨pA,pc,rfl,h0⟩ hl;exact ⟨pA,pc,rfl,h0.le hl⟩
 len:=by rintro U x vs ⟨_,_,rfl,_⟩;rfl
 one:=by rintro U x vs ⟨_,_,rfl,h0⟩;rfl
def wAG (x:wAp):List Value:=[.int .i64 x.Offset.Lo,.int .i64 x.Offset.Hi,.int .i64 x.Error]
def wAF (x:wAi):List Value:=[.int .i64 x.Skier,.int .i64 x.Mat,.int .i64 x.Clock,.int .i64 x.Time]
def wKz (U:PHeap) (x:Int) (vs:List Value):Prop:=vs=[.int .i64 x]
def wLA (U:PHeap) (L_:List Res) (v:Value) (y:Bool):Prop:=v=.bool y/\L_=[]
def wTS (U:PHeap) (x:wAX) (vs:List Value):Prop:=vs=[.agg #[.int .i64 x.Lo,.int .i64 x.Hi]]
def wTT (U:PHeap) (L_:List Res) (v:Value) (y:Bool):Prop:=v=.bool y/\L_=[]
def wTU (U:PHeap) (x:wAZ) (vs:List Value):Prop:=vs=[.agg #[.int .i64 x.Offset.Lo,.int .i64 x.Offset.Hi,.int .i64 x.Error]]
def wTV (U:PHeap) (L_:List Res) (v:Value) (y:Bool):Prop:=v=.bool y/\L_=[]
def wRk (U:PHeap) (x:wAO) (vs:List Value):Prop:=vs=[.agg #[.int .i64 x.Skier,.int .i64 x.Mat,.int .i64 x.Clock,.int .i64 x.Time]]
def wRl (U:PHeap) (L_:List Res) (v:Value) (y:Bool):Prop:=v=.bool y/\L_=[]
def wCQ (x:wAE):List Value:=[.int .i64 x.skier,.int .i64 x.mat]
def wRm (U:PHeap) (x:wAH) (vs:List Value):Prop:=vs=[.agg #[.int .i64 x.Kind,.int .i64 x.Skier,.int .i64 x.Index,.bool x.Up]]
def wBf (x:wAE):Value:=.agg #[.int .i64 x.skier,.int .i64 x.mat]
def wBo (x:Int):Value:=.int .i64 x
def wAS (x:wAa):List Value:=[.int .i64 x.step.Kind,.int .i64 x.step.Skier,.int .i64 x.step.Index,.bool x.step.Up,.int .i64 x.from_,.int .i64 x.to_,.int .i64 x.count]
def wOe (U:PHeap) (x:List Int) (vs:List Value):Prop:=∃ (pA_0:Option Addr) (pc_0:Nat),vs=[.slice pA_0 x.length pc_0]/\Sl U 1 pA_0 pc_0 x.length (List.flatMap KL.encI x)
def wOf (U:PHeap) (L_:List Res) (v:Value) (y:Bool):Prop:=v=.bool y/\L_=[]
theorem Tryz.mixed:Tryz.prog.follows .mixedOrders=true:=by kernel_rfl
theorem wPh:wEA Tryz.prog 27 [(0,1),(1,1),(2,1),(3,1)]:=⟨_,Tryz.runUnderlying27,fun w=>by simp [Tryz.sizeOf22,Tryz.sizeOf23,Tryz.sizeOf24,Tryz.sizeOf25]⟩
theorem wPi:wEA Tryz.prog 29 [(0,1),(1,1)]:=⟨_,Tryz.runUnderlying29,fun w=>by simp [Tryz.sizeOf3]⟩
theorem wJJ:wEA Tryz.prog 36 [(0,1),(1,1),(2,1),(3,1)]:=⟨_,Tryz.runUnderlying36,fun w=>by simp [Tryz.sizeOf22,Tryz.sizeOf23,Tryz.sizeOf33,Tryz.sizeOf34]⟩
theorem wHA:wEA Tryz.prog 93 [(0,1),(1,1),(2,1),(3,1)]:=⟨_,Tryz.runUnderlying93,fun w=>by simp [Tryz.sizeOf91,Tryz.sizeOf3,Tryz.sizeOf4]⟩
theorem wBp:wEA Tryz.prog 123 [(0,1),(1,1)]:=⟨_,Tryz.runUnderlying123,fun w=>by simp [Tryz.sizeOf3]⟩
theorem wJs:wEA Tryz.prog 133 [(0,1),(1,1)]:=⟨_,Tryz.runUnderlying133,fun w=>by simp [Tryz.sizeOf22]⟩
theorem wGJ:wEA Tryz.prog 139 [(0,4),(4,1),(5,1)]:=⟨_,Tryz.runUnderlying139,fun w=>by simp [Tryz.sizeOf27,Tryz.sizeOf136,Tryz.sizeOf137]⟩
theorem wOg:wEA Tryz.prog 184 [(0,4),(4,1),(5,1),(6,1)]:=⟨_,Tryz.runUnderlying184,fun w=>by simp [Tryz.sizeOf93,Tryz.sizeOf3]⟩
theorem wOh:wEA Tryz.prog 188 [(0,1)]:=⟨_,Tryz.runUnderlying188,fun w=>by simp [Tryz.sizeOf49]⟩
theorem wGK:wEA Tryz.prog 200 [(0,1),(1,1),(2,1)]:=⟨_,Tryz.runUnderlying200,fun w=>by simp [Tryz.sizeOf196,Tryz.sizeOf197,Tryz.sizeOf198]⟩
theorem wOi:Tryz.prog.info? 3=some Tryz.t3:=by kernel_rfl
theorem wOj:Tryz.prog.info? 22=some Tryz.t22:=by kernel_rfl
theorem wTW:Tryz.prog.info? 39=some Tryz.t39:=by kernel_rfl
theorem wRn:Tryz.prog.info? 112=some Tryz.t112:=by kernel_rfl
theorem wRo:Tryz.prog.info? 115=some Tryz.t115:=by kernel_rfl
theorem wRp:Tryz.prog.info? 116=some Tryz.t116:=by kernel_rfl
theorem wRq:Tryz.prog.info? 117=some Tryz.t117:=by kernel_rfl
theorem wLB:Tryz.prog.info? 184=some Tryz.t184:=by kernel_rfl
theorem wTX (d:Nat) (x y:wAX) (w:World):(Op.equalIn (d + 2) 39 (.agg (wAB x).toArray) (.agg (wAB y).toArray)).run Tryz.prog w=.ok (decide (x=y)) w:=by
 obtain ⟨x0,x1⟩:=x
 obtain ⟨y0,y1⟩:=y
 rw [run_equalIn_agg w (d + 1) 39 _ _ (wFN Tryz.runUnderlying39) (by kernel_rfl),wEB Tryz.runUnderlying39]
 by_cases h0:x0=y0 <;> by_cases h1:x1=y1 <;> simp [Op.eqFields,part,wAB,Result.andThen,Tryz.isAgg3,h0,run_equalIn_int _ (d + 0) 3 .i64 .i64 _ _ (wCO Tryz.runUnderlying3),h1]
theorem eqG39:Tryz.prog.eqGuardType Tryz.prog.depth 39=false:=by kernel_rfl
theorem eqT39:EqT Tryz.prog 39 wAB:=fun x y w=>by
 unfold Op.equal Op.maxDepth;exact wTX 9998 x y w
theorem wTY (d:Nat) (x y:wAZ) (w:World):(Op.equalIn (d + 3) 112 (.agg (wAD x).toArray) (.agg (wAD y).toArray)).run Tryz.prog w=.ok (decide (x=y)) w:=by
 obtain ⟨x0,x1⟩:=x
 obtain ⟨y0,y1⟩:=y
 have e0:=fun w=>wTX (d + 0) x0 y0 w
 rw [run_equalIn_agg w (d + 2) 112 _ _ (wFN Tryz.runUnderlying112) (by kernel_rfl),wEB Tryz.runUnderlying112]
 by_cases h0:x0=y0 <;> by_cases h1:x1=y1 <;> simp only [h0,wAB,decide_true,decide_false] at e0 <;> simp [Op.eqFields,part,wAD,Result.andThen,Tryz.isAgg39,h0,e0,Tryz.sizeOf39,wAB,Tryz.isAgg3,h1,run_equalIn_int _ (d + 1) 3 .i64 .i64 _ _ (wCO Tryz.runUnderlying3)]
theorem wTZ:Tryz.prog.eqGuardType Tryz.prog.depth 112=false:=by kernel_rfl
theorem wTa:EqT Tryz.prog 112 wAD:=fun x y w=>by
 unfold Op.equal Op.maxDepth;exact wTY 9997 x y w
theorem wTb (d:Nat) (x y:wAO) (w:World):(Op.equalIn (d + 2) 115 (.agg (wAC x).toArray) (.agg (wAC y).toArray)).run Tryz.prog w=.ok (decide (x=y)) w:=by
 obtain ⟨x0,x1,x2,x3⟩:=x
 obtain ⟨y0,y1,y2,y3⟩:=y
 rw [run_equalIn_agg w (d + 1) 115 _ _ (wFN Tryz.runUnderlying115) (by kernel_rfl),wEB Tryz.runUnderlying115]
 by_cases h0:x0=y0 <;> by_cases h1:x1=y1 <;> by_cases h2:x2=y2 <;> by_cases h3:x3=y3 <;> simp [Op.eqFields,part,wAC,Result.andThen,Tryz.isAgg3,h0,run_equalIn_int _ (d + 0) 3 .i64 .i64 _ _ (wCO Tryz.runUnderlying3),h1,h2,h3]
theorem wTc:Tryz.prog.eqGuardType Tryz.prog.depth 115=false:=by kernel_rfl
theorem wTd:EqT Tryz.prog 115 wAC:=fun x y w=>by
 unfold Op.equal Op.maxDepth;exact wTb 9998 x y w
theorem wTe (d:Nat) (x y:wAE) (w:World):(Op.equalIn (d + 2) 123 (.agg (wCQ x).toArray) (.agg (wCQ y).toArray)).run Tryz.prog w=.ok (decide (x=y)) w:=by
 obtain ⟨x0,x1⟩:=x
 obtain ⟨y0,y1⟩:=y
 rw [run_equalIn_agg w (d + 1) 123 _ _ (wFN Tryz.runUnderlying123) (by kernel_rfl),wEB Tryz.runUnderlying123]
 by_cases h0:x0=y0 <;> by_cases h1:x1=y1 <;> simp [Op.eqFields,part,wCQ,Result.andThen,Tryz.isAgg3,h0,run_equalIn_int _ (d + 0) 3 .i64 .i64 _ _ (wCO Tryz.runUnderlying3),h1]
theorem wTf:Tryz.prog.eqGuardType Tryz.prog.depth 123=false:=by kernel_rfl
theorem wTg:EqT Tryz.prog 123 wCQ:=fun x y w=>by
 unfold Op.equal Op.maxDepth;exact wTe 9998 x y w
theorem wEV:KeyR Tryz.prog 123 wBf:=Two.keyR (k:=.i64) ⟨wCO Tryz.runUnderlying123,rfl,rfl,by decide,rfl,rfl,by decide,wCO Tryz.runUnderlying3,Tryz.isAgg3,by kernel_rfl⟩ wBf (·.skier) (·.mat) (fun _=>rfl) (fun x y h1 h2=>by cases x;cases y;cases h1;cases h2;rfl)
end Go.Proofs.YtlnfbjphfoipaaaGreat
