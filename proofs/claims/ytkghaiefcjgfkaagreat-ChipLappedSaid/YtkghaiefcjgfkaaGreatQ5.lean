import Derived.Test.YtkghaiefcjgfkaaGreatQ0
import Derived.Test.YtkghaiefcjgfkaaGreatQ3
import Derived.Test.YtkghaiefcjgfkaaGreatProg
import Derived.Test.YtkghaiefcjgfkaaGreatQ2
import Derived.Test.YtkghaiefcjgfkaaGreatQ4
set_option linter.all false
namespace Go.Proofs.YtkghaiefcjgfkaaGreat
open Go.KL
def wAF (x:wAI):List Value:=[.int .i64 x.Lo,.int .i64 x.Hi]
def wEX:Rl (List Int) where
 sz:=1
 r:=fun U x vs=>∃ (pA:Option Addr) (pc:Nat),vs=[.slice pA x.length pc]/\Sl U 1 pA pc x.length (List.flatMap KL.encI x)
 mono:=by rintro U U' x vs ⟨pA,pc,rfl,h0⟩ hl;exact ⟨pA,pc,rfl,h0.le hl⟩
 len:=by rintro U x vs ⟨_,_,rfl,_⟩;rfl
 one:=by rintro U x vs ⟨_,_,rfl,h0⟩;rfl
def wAA (x:wAL):List Value:=[.int .i64 x.Offset.Lo,.int .i64 x.Offset.Hi,.int .i64 x.Error]
def wAB (x:wAK):List Value:=[.int .i64 x.Skier,.int .i64 x.Mat,.int .i64 x.Clock,.int .i64 x.Time]
def wAU (x:wAP):List Value:=[.int .i64 x.Skier,.int .i64 x.Mat]
def wJG (U:PHeap) (x:Int) (vs:List Value):Prop:=vs=[.int .i64 x]
def wKx (U:PHeap) (L_:List Res) (v:Value) (y:Bool):Prop:=v=.bool y/\L_=[]
def wNk (U:PHeap) (x:wAI) (vs:List Value):Prop:=vs=[.agg #[.int .i64 x.Lo,.int .i64 x.Hi]]
def wNl (U:PHeap) (L_:List Res) (v:Value) (y:Bool):Prop:=v=.bool y/\L_=[]
def wNm (U:PHeap) (x:wAL) (vs:List Value):Prop:=vs=[.agg #[.int .i64 x.Offset.Lo,.int .i64 x.Offset.Hi,.int .i64 x.Error]]
def wNn (U:PHeap) (L_:List Res) (v:Value) (y:Bool):Prop:=v=.bool y/\L_=[]
def wKC (U:PHeap) (x:wAK) (vs:List Value):Prop:=vs=[.agg #[.int .i64 x.Skier,.int .i64 x.Mat,.int .i64 x.Clock,.int .i64 x.Time]]
def wKD (U:PHeap) (L_:List Res) (v:Value) (y:Bool):Prop:=v=.bool y/\L_=[]
def wBr (x:wAH):List Value:=[.int .i64 x.skier,.int .i64 x.mat]
def wBp (x:wAG):List Value:=[.int .i64 x.Kind,.int .i64 x.Skier,.int .i64 x.Index,.bool x.Up]
def wLl (U:PHeap) (x:wAG) (vs:List Value):Prop:=vs=[.agg #[.int .i64 x.Kind,.int .i64 x.Skier,.int .i64 x.Index,.bool x.Up]]
def wNo (U:PHeap) (L_:List Res) (v:Value) (y:Bool):Prop:=v=.bool y/\L_=[]
def wBL (x:wAH):Value:=.agg #[.int .i64 x.skier,.int .i64 x.mat]
def wBO (x:Int):Value:=.int .i64 x
def wAR (x:wAg):List Value:=[.int .i64 x.step.Kind,.int .i64 x.step.Skier,.int .i64 x.step.Index,.bool x.step.Up,.int .i64 x.from_,.int .i64 x.to_,.int .i64 x.count]
def wMk (U:PHeap) (x:wAP) (vs:List Value):Prop:=vs=[.agg #[.int .i64 x.Skier,.int .i64 x.Mat]]
def wMl (U:PHeap) (L_:List Res) (v:Value) (y:Bool):Prop:=v=.bool y/\L_=[]
def wLm (U:PHeap) (x:(Int × wAK)) (vs:List Value):Prop:=vs=[.int .i64 x.1,.agg #[.int .i64 x.2.Skier,.int .i64 x.2.Mat,.int .i64 x.2.Clock,.int .i64 x.2.Time]]
def wLn (U:PHeap) (L_:List Res) (v:Value) (y:Bool):Prop:=v=.bool y/\L_=[]
def wMm (U:PHeap) (x:List Int) (vs:List Value):Prop:=∃ (pA_0:Option Addr) (pc_0:Nat),vs=[.slice pA_0 x.length pc_0]/\Sl U 1 pA_0 pc_0 x.length (List.flatMap KL.encI x)
def wMn (U:PHeap) (L_:List Res) (v:Value) (y:Bool):Prop:=v=.bool y/\L_=[]
def wKy (x:Int):Value:=.int .i64 x
def wLo (x:Bool):Value:=.bool x
def wAc (x:wAO):List Value:=[.int .i64 x.Bib,.int .i64 x.Done,.int .i64 x.Time,.int .i64 x.By]
def wNp (U:PHeap) (x:(wAO × wAO)) (vs:List Value):Prop:=vs=[.agg #[.int .i64 x.1.Bib,.int .i64 x.1.Done,.int .i64 x.1.Time,.int .i64 x.1.By],.agg #[.int .i64 x.2.Bib,.int .i64 x.2.Done,.int .i64 x.2.Time,.int .i64 x.2.By]]
def wNq (U:PHeap) (L_:List Res) (v:Value) (y:Int):Prop:=v=.int .i64 y/\L_=[]
def ar76 (U:PHeap) (x:wAO) (vs:List Value):Prop:=vs=[.agg #[.int .i64 x.Bib,.int .i64 x.Done,.int .i64 x.Time,.int .i64 x.By]]
def rr76 (U:PHeap) (L_:List Res) (v:Value) (y:Bool):Prop:=v=.bool y/\L_=[]
theorem Tryz.mixed:Tryz.prog.follows .mixedOrders=true:=by kernel_rfl
theorem wCU:wDE Tryz.prog 37 [(0,1),(1,1)]:=⟨_,Tryz.runUnderlying37,fun w=>by simp [Tryz.sizeOf3]⟩
theorem wJf:wDE Tryz.prog 39 [(0,2),(2,1)]:=⟨_,Tryz.runUnderlying39,fun w=>by simp [Tryz.sizeOf37,Tryz.sizeOf3]⟩
theorem wLp:wDE Tryz.prog 45 [(0,1),(1,1),(2,1),(3,1)]:=⟨_,Tryz.runUnderlying45,fun w=>by simp [Tryz.sizeOf41,Tryz.sizeOf42,Tryz.sizeOf40,Tryz.sizeOf43]⟩
theorem wFA:wDE Tryz.prog 52 [(0,1),(1,1),(2,1),(3,1)]:=⟨_,Tryz.runUnderlying52,fun w=>by simp [Tryz.sizeOf3]⟩
theorem wFZ:wDE Tryz.prog 62 [(0,1),(1,1)]:=⟨_,Tryz.runUnderlying62,fun w=>by simp [Tryz.sizeOf3]⟩
theorem wFa:wDE Tryz.prog 69 [(0,1),(1,1),(2,1)]:=⟨_,Tryz.runUnderlying69,fun w=>by simp [Tryz.sizeOf3,Tryz.sizeOf41,Tryz.sizeOf56]⟩
theorem wLq:wDE Tryz.prog 75 [(0,1),(1,1),(2,1),(3,1)]:=⟨_,Tryz.runUnderlying75,fun w=>by simp [Tryz.sizeOf3]⟩
theorem wLr:wDE Tryz.prog 80 [(0,1),(1,1),(2,1)]:=⟨_,Tryz.runUnderlying80,fun w=>by simp [Tryz.sizeOf22,Tryz.sizeOf3,Tryz.sizeOf78]⟩
theorem wDL:wDE Tryz.prog 101 [(0,1),(1,1),(2,1),(3,1)]:=⟨_,Tryz.runUnderlying101,fun w=>by simp [Tryz.sizeOf99,Tryz.sizeOf3,Tryz.sizeOf4]⟩
theorem wBY:wDE Tryz.prog 115 [(0,1),(1,1)]:=⟨_,Tryz.runUnderlying115,fun w=>by simp [Tryz.sizeOf3]⟩
theorem wIZ:wDE Tryz.prog 118 [(0,1),(1,1)]:=⟨_,Tryz.runUnderlying118,fun w=>by simp [Tryz.sizeOf41]⟩
theorem wGD:wDE Tryz.prog 124 [(0,4),(4,1),(5,1)]:=⟨_,Tryz.runUnderlying124,fun w=>by simp [Tryz.sizeOf45,Tryz.sizeOf121,Tryz.sizeOf122]⟩
theorem wKz:wDE Tryz.prog 151 [(0,4),(4,1),(5,1),(6,1)]:=⟨_,Tryz.runUnderlying151,fun w=>by simp [Tryz.sizeOf101,Tryz.sizeOf3]⟩
theorem wIa:wDE Tryz.prog 158 [(0,3),(3,1),(4,1)]:=⟨_,Tryz.runUnderlying158,fun w=>by simp [Tryz.sizeOf69,Tryz.sizeOf41,Tryz.sizeOf64]⟩
theorem wGE:wDE Tryz.prog 183 [(0,1),(1,1),(2,1)]:=⟨_,Tryz.runUnderlying183,fun w=>by simp [Tryz.sizeOf179,Tryz.sizeOf180,Tryz.sizeOf181]⟩
theorem wFm:Tryz.prog.info? 3=some Tryz.t3:=by kernel_rfl
theorem wLs:Tryz.prog.info? 4=some Tryz.t4:=by kernel_rfl
theorem wMW:Tryz.prog.info? 37=some Tryz.t37:=by kernel_rfl
theorem wJg:Tryz.prog.info? 39=some Tryz.t39:=by kernel_rfl
theorem wMX:Tryz.prog.info? 41=some Tryz.t41:=by kernel_rfl
theorem wLA:Tryz.prog.info? 52=some Tryz.t52:=by kernel_rfl
theorem wNr:Tryz.prog.info? 62=some Tryz.t62:=by kernel_rfl
theorem wNs:Tryz.prog.info? 75=some Tryz.t75:=by kernel_rfl
theorem wJH:Tryz.prog.info? 151=some Tryz.t151:=by kernel_rfl
theorem eqS37 (d:Nat) (x y:wAI) (w:World):(Op.equalIn (d + 2) 37 (.agg (wAF x).toArray) (.agg (wAF y).toArray)).run Tryz.prog w=.ok (decide (x=y)) w:=by
 obtain ⟨x0,x1⟩:=x
 obtain ⟨y0,y1⟩:=y
 rw [run_equalIn_agg w (d + 1) 37 _ _ (wGU Tryz.runUnderlying37) (by kernel_rfl),wEv Tryz.runUnderlying37]
 by_cases h0:x0=y0 <;> by_cases h1:x1=y1 <;> simp [Op.eqFields,part,wAF,Result.andThen,Tryz.isAgg3,h0,run_equalIn_int _ (d + 0) 3 .i64 .i64 _ _ (wBE Tryz.runUnderlying3),h1]
theorem wLt:Tryz.prog.eqGuardType Tryz.prog.depth 37=false:=by kernel_rfl
theorem wLu:EqT Tryz.prog 37 wAF:=fun x y w=>by
 unfold Op.equal Op.maxDepth;exact eqS37 9998 x y w
theorem eqS62 (d:Nat) (x y:wAP) (w:World):(Op.equalIn (d + 2) 62 (.agg (wAU x).toArray) (.agg (wAU y).toArray)).run Tryz.prog w=.ok (decide (x=y)) w:=by
 obtain ⟨x0,x1⟩:=x
 obtain ⟨y0,y1⟩:=y
 rw [run_equalIn_agg w (d + 1) 62 _ _ (wGU Tryz.runUnderlying62) (by kernel_rfl),wEv Tryz.runUnderlying62]
 by_cases h0:x0=y0 <;> by_cases h1:x1=y1 <;> simp [Op.eqFields,part,wAU,Result.andThen,Tryz.isAgg3,h0,run_equalIn_int _ (d + 0) 3 .i64 .i64 _ _ (wBE Tryz.runUnderlying3),h1]
theorem wNt:Tryz.prog.eqGuardType Tryz.prog.depth 62=false:=by kernel_rfl
theorem wNu:EqT Tryz.prog 62 wAU:=fun x y w=>by
 unfold Op.equal Op.maxDepth;exact eqS62 9998 x y w
theorem wNv (d:Nat) (x y:wAH) (w:World):(Op.equalIn (d + 2) 115 (.agg (wBr x).toArray) (.agg (wBr y).toArray)).run Tryz.prog w=.ok (decide (x=y)) w:=by
 obtain ⟨x0,x1⟩:=x
 obtain ⟨y0,y1⟩:=y
 rw [run_equalIn_agg w (d + 1) 115 _ _ (wGU Tryz.runUnderlying115) (by kernel_rfl),wEv Tryz.runUnderlying115]
 by_cases h0:x0=y0 <;> by_cases h1:x1=y1 <;> simp [Op.eqFields,part,wBr,Result.andThen,Tryz.isAgg3,h0,run_equalIn_int _ (d + 0) 3 .i64 .i64 _ _ (wBE Tryz.runUnderlying3),h1]
theorem wLB:Tryz.prog.eqGuardType Tryz.prog.depth 115=false:=by kernel_rfl
theorem wLC:EqT Tryz.prog 115 wBr:=fun x y w=>by
 unfold Op.equal Op.maxDepth;exact wNv 9998 x y w
theorem wCa:KeyR Tryz.prog 115 wBL:=Two.keyR (k:=.i64) ⟨wBE Tryz.runUnderlying115,rfl,rfl,by decide,rfl,rfl,by decide,wBE Tryz.runUnderlying3,Tryz.isAgg3,by kernel_rfl⟩ wBL (·.skier) (·.mat) (fun _=>rfl) (fun x y h1 h2=>by cases x;cases y;cases h1;cases h2;rfl)
theorem wLD:KeyR Tryz.prog 3 wKy:=KeyR.ofInt (wBE Tryz.runUnderlying3)
end Go.Proofs.YtkghaiefcjgfkaaGreat
