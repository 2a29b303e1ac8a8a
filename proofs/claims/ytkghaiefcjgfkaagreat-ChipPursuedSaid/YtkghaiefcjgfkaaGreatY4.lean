import Derived.Test.YtkghaiefcjgfkaaGreatY0
import Derived.Test.YtkghaiefcjgfkaaGreatY1
import Derived.Test.YtkghaiefcjgfkaaGreatProg
import Derived.Test.YtkghaiefcjgfkaaGreatY3
set_option linter.all false
namespace Go.Proofs.YtkghaiefcjgfkaaGreat
open Go.KL
def wAe (x:wAK):List Value:=[.int .i64 x.Bib,.int .i64 x.Time]
def wNP (U:PHeap) (x:wAK) (vs:List Value):Prop:=vs=[.agg #[.int .i64 x.Bib,.int .i64 x.Time]]
def wNQ (U:PHeap) (L_:List Res) (v:Value) (y:Bool):Prop:=v=.bool y/\L_=[]
def wKU (x:Int):Value:=.int .i64 x
def wLQ (x:Bool):Value:=.bool x
def wMU (U:PHeap) (x:(Int × Int)) (vs:List Value):Prop:=vs=[.int .i64 x.1,.int .i64 x.2]
def wMV (U:PHeap) (L_:List Res) (v:Value) (y:Int):Prop:=v=.int .i64 y/\L_=[]
def wBG (x:wBR):List Value:=[.int .i64 x.Bib,.int .i64 x.Time,.int .i64 x.Gate]
def wNR (U:PHeap) (x:Int) (vs:List Value):Prop:=vs=[.int .i64 x]
def wNS (U:PHeap) (L_:List Res) (v:Value) (y:Bool):Prop:=v=.bool y/\L_=[]
def wAA (x:wAF):List Value:=[.int .i64 x.Lo,.int .i64 x.Hi]
def wNT (U:PHeap) (x:wAF) (vs:List Value):Prop:=vs=[.agg #[.int .i64 x.Lo,.int .i64 x.Hi]]
def wNU (U:PHeap) (L_:List Res) (v:Value) (y:Bool):Prop:=v=.bool y/\L_=[]
def wAG (x:wAO):List Value:=[.int .i64 x.Offset.Lo,.int .i64 x.Offset.Hi,.int .i64 x.Error]
def wNV (U:PHeap) (x:wAO) (vs:List Value):Prop:=vs=[.agg #[.int .i64 x.Offset.Lo,.int .i64 x.Offset.Hi,.int .i64 x.Error]]
def wNW (U:PHeap) (L_:List Res) (v:Value) (y:Bool):Prop:=v=.bool y/\L_=[]
def wAB (x:wAJ):List Value:=[.int .i64 x.Skier,.int .i64 x.Mat,.int .i64 x.Clock,.int .i64 x.Time]
def wJt (U:PHeap) (x:wAJ) (vs:List Value):Prop:=vs=[.agg #[.int .i64 x.Skier,.int .i64 x.Mat,.int .i64 x.Clock,.int .i64 x.Time]]
def wJu (U:PHeap) (L_:List Res) (v:Value) (y:Bool):Prop:=v=.bool y/\L_=[]
def wAV (x:wAM):List Value:=[.int .i64 x.Skier,.int .i64 x.Mat]
def wBf (x:wAI):List Value:=[.int .i64 x.skier,.int .i64 x.mat]
def wBc (x:wAH):List Value:=[.int .i64 x.Kind,.int .i64 x.Skier,.int .i64 x.Index,.bool x.Up]
def wLR (U:PHeap) (x:wAH) (vs:List Value):Prop:=vs=[.agg #[.int .i64 x.Kind,.int .i64 x.Skier,.int .i64 x.Index,.bool x.Up]]
def wNX (U:PHeap) (L_:List Res) (v:Value) (y:Bool):Prop:=v=.bool y/\L_=[]
def wBH (x:wAI):Value:=.agg #[.int .i64 x.skier,.int .i64 x.mat]
def wBQ (x:Int):Value:=.int .i64 x
def wAN (x:wAa):List Value:=[.int .i64 x.step.Kind,.int .i64 x.step.Skier,.int .i64 x.step.Index,.bool x.step.Up,.int .i64 x.from_,.int .i64 x.to_,.int .i64 x.count]
def wMW (U:PHeap) (x:wAM) (vs:List Value):Prop:=vs=[.agg #[.int .i64 x.Skier,.int .i64 x.Mat]]
def wMX (U:PHeap) (L_:List Res) (v:Value) (y:Bool):Prop:=v=.bool y/\L_=[]
def wNA:Rl (List Int) where
 sz:=1
 r:=fun U x vs=>∃ (pA:Option Addr) (pc:Nat),vs=[.slice pA x.length pc]/\Sl U 1 pA pc x.length (List.flatMap KL.encI x)
 mono:=by rintro U U' x vs ⟨pA,pc,rfl,h0⟩ hl;exact ⟨pA,pc,rfl,h0.le hl⟩
 len:=by rintro U x vs ⟨_,_,rfl,_⟩;rfl
 one:=by rintro U x vs ⟨_,_,rfl,h0⟩;rfl
def wLS (U:PHeap) (x:(Int × wAJ)) (vs:List Value):Prop:=vs=[.int .i64 x.1,.agg #[.int .i64 x.2.Skier,.int .i64 x.2.Mat,.int .i64 x.2.Clock,.int .i64 x.2.Time]]
def wLT (U:PHeap) (L_:List Res) (v:Value) (y:Bool):Prop:=v=.bool y/\L_=[]
theorem Tryz.mixed:Tryz.prog.follows .mixedOrders=true:=by kernel_rfl
theorem wLU:wCw Tryz.prog 29 [(0,1),(1,1)]:=⟨_,Tryz.runUnderlying29,fun w=>by simp [Tryz.sizeOf3]⟩
theorem wLV:wCw Tryz.prog 35 [(0,1),(1,1)]:=⟨_,Tryz.runUnderlying35,fun w=>by simp [Tryz.sizeOf3]⟩
theorem wCI:wCw Tryz.prog 37 [(0,1),(1,1)]:=⟨_,Tryz.runUnderlying37,fun w=>by simp [Tryz.sizeOf3]⟩
theorem wJR:wCw Tryz.prog 39 [(0,2),(2,1)]:=⟨_,Tryz.runUnderlying39,fun w=>by simp [Tryz.sizeOf37,Tryz.sizeOf3]⟩
theorem wHc:wCw Tryz.prog 45 [(0,1),(1,1),(2,1),(3,1)]:=⟨_,Tryz.runUnderlying45,fun w=>by simp [Tryz.sizeOf41,Tryz.sizeOf42,Tryz.sizeOf40,Tryz.sizeOf43]⟩
theorem wLW:wCw Tryz.prog 47 [(0,1),(1,1),(2,1)]:=⟨_,Tryz.runUnderlying47,fun w=>by simp [Tryz.sizeOf3]⟩
theorem wGO:wCw Tryz.prog 52 [(0,1),(1,1),(2,1),(3,1)]:=⟨_,Tryz.runUnderlying52,fun w=>by simp [Tryz.sizeOf3]⟩
theorem wFF:wCw Tryz.prog 62 [(0,1),(1,1)]:=⟨_,Tryz.runUnderlying62,fun w=>by simp [Tryz.sizeOf3]⟩
theorem wLX:wCw Tryz.prog 80 [(0,1),(1,1),(2,1)]:=⟨_,Tryz.runUnderlying80,fun w=>by simp [Tryz.sizeOf22,Tryz.sizeOf3,Tryz.sizeOf78]⟩
theorem wDE:wCw Tryz.prog 101 [(0,1),(1,1),(2,1),(3,1)]:=⟨_,Tryz.runUnderlying101,fun w=>by simp [Tryz.sizeOf99,Tryz.sizeOf3,Tryz.sizeOf4]⟩
theorem wBT:wCw Tryz.prog 115 [(0,1),(1,1)]:=⟨_,Tryz.runUnderlying115,fun w=>by simp [Tryz.sizeOf3]⟩
theorem wIF:wCw Tryz.prog 118 [(0,1),(1,1)]:=⟨_,Tryz.runUnderlying118,fun w=>by simp [Tryz.sizeOf41]⟩
theorem wFi:wCw Tryz.prog 124 [(0,4),(4,1),(5,1)]:=⟨_,Tryz.runUnderlying124,fun w=>by simp [Tryz.sizeOf45,Tryz.sizeOf121,Tryz.sizeOf122]⟩
theorem wKV:wCw Tryz.prog 151 [(0,4),(4,1),(5,1),(6,1)]:=⟨_,Tryz.runUnderlying151,fun w=>by simp [Tryz.sizeOf101,Tryz.sizeOf3]⟩
theorem wFj:wCw Tryz.prog 183 [(0,1),(1,1),(2,1)]:=⟨_,Tryz.runUnderlying183,fun w=>by simp [Tryz.sizeOf179,Tryz.sizeOf180,Tryz.sizeOf181]⟩
theorem wGs:Tryz.prog.info? 3=some Tryz.t3:=by kernel_rfl
theorem wNY:Tryz.prog.info? 29=some Tryz.t29:=by kernel_rfl
theorem wFk:Tryz.prog.info? 37=some Tryz.t37:=by kernel_rfl
theorem wNZ:Tryz.prog.info? 39=some Tryz.t39:=by kernel_rfl
theorem wNa:Tryz.prog.info? 41=some Tryz.t41:=by kernel_rfl
theorem wNb:Tryz.prog.info? 47=some Tryz.t47:=by kernel_rfl
theorem wJS:Tryz.prog.info? 52=some Tryz.t52:=by kernel_rfl
theorem wNc:Tryz.prog.info? 62=some Tryz.t62:=by kernel_rfl
theorem wIl:Tryz.prog.info? 151=some Tryz.t151:=by kernel_rfl
theorem eqS37 (d:Nat) (x y:wAF) (w:World):(Op.equalIn (d + 2) 37 (.agg (wAA x).toArray) (.agg (wAA y).toArray)).run Tryz.prog w=.ok (decide (x=y)) w:=by
 obtain ⟨x0,x1⟩:=x
 obtain ⟨y0,y1⟩:=y
 rw [run_equalIn_agg w (d + 1) 37 _ _ (wFu Tryz.runUnderlying37) (by kernel_rfl),wEf Tryz.runUnderlying37]
 by_cases h0:x0=y0 <;> by_cases h1:x1=y1 <;> simp [Op.eqFields,part,wAA,Result.andThen,Tryz.isAgg3,h0,run_equalIn_int _ (d + 0) 3 .i64 .i64 _ _ (wBe Tryz.runUnderlying3),h1]
theorem wKW:Tryz.prog.eqGuardType Tryz.prog.depth 37=false:=by kernel_rfl
theorem wKX:EqT Tryz.prog 37 wAA:=fun x y w=>by
 unfold Op.equal Op.maxDepth;exact eqS37 9998 x y w
theorem eqS62 (d:Nat) (x y:wAM) (w:World):(Op.equalIn (d + 2) 62 (.agg (wAV x).toArray) (.agg (wAV y).toArray)).run Tryz.prog w=.ok (decide (x=y)) w:=by
 obtain ⟨x0,x1⟩:=x
 obtain ⟨y0,y1⟩:=y
 rw [run_equalIn_agg w (d + 1) 62 _ _ (wFu Tryz.runUnderlying62) (by kernel_rfl),wEf Tryz.runUnderlying62]
 by_cases h0:x0=y0 <;> by_cases h1:x1=y1 <;> simp [Op.eqFields,part,wAV,Result.andThen,Tryz.isAgg3,h0,run_equalIn_int _ (d + 0) 3 .i64 .i64 _ _ (wBe Tryz.runUnderlying3),h1]
theorem wNd:Tryz.prog.eqGuardType Tryz.prog.depth 62=false:=by kernel_rfl
theorem wNe:EqT Tryz.prog 62 wAV:=fun x y w=>by
 unfold Op.equal Op.maxDepth;exact eqS62 9998 x y w
theorem wNf (d:Nat) (x y:wAI) (w:World):(Op.equalIn (d + 2) 115 (.agg (wBf x).toArray) (.agg (wBf y).toArray)).run Tryz.prog w=.ok (decide (x=y)) w:=by
 obtain ⟨x0,x1⟩:=x
 obtain ⟨y0,y1⟩:=y
 rw [run_equalIn_agg w (d + 1) 115 _ _ (wFu Tryz.runUnderlying115) (by kernel_rfl),wEf Tryz.runUnderlying115]
 by_cases h0:x0=y0 <;> by_cases h1:x1=y1 <;> simp [Op.eqFields,part,wBf,Result.andThen,Tryz.isAgg3,h0,run_equalIn_int _ (d + 0) 3 .i64 .i64 _ _ (wBe Tryz.runUnderlying3),h1]
theorem wKY:Tryz.prog.eqGuardType Tryz.prog.depth 115=false:=by kernel_rfl
theorem wKZ:EqT Tryz.prog 115 wBf:=fun x y w=>by
 unfold Op.equal Op.maxDepth;exact wNf 9998 x y w
theorem wCx:KeyR Tryz.prog 115 wBH:=Two.keyR (k:=.i64) ⟨wBe Tryz.runUnderlying115,rfl,rfl,by decide,rfl,rfl,by decide,wBe Tryz.runUnderlying3,Tryz.isAgg3,by kernel_rfl⟩ wBH (·.skier) (·.mat) (fun _=>rfl) (fun x y h1 h2=>by cases x;cases y;cases h1;cases h2;rfl)
theorem wKa:KeyR Tryz.prog 3 wKU:=KeyR.ofInt (wBe Tryz.runUnderlying3)
end Go.Proofs.YtkghaiefcjgfkaaGreat
