import Derived.Test.YtnbcoenjobdplaaR0
import Derived.Test.YtnbcoenjobdplaaR2
import Derived.Test.YtnbcoenjobdplaaProg
import Derived.Test.YtnbcoenjobdplaaR3
set_option linter.all false
namespace Go.Proofs.Ytnbcoenjobdplaa
open Go.KL
def wAO (x:wAB):List Value:=[.int .i64 x.Bib,.int .i64 x.Nation,.int .i64 x.Rank]
def wJS (U:PHeap) (x:wAB) (vs:List Value):Prop:=vs=[.agg #[.int .i64 x.Bib,.int .i64 x.Nation,.int .i64 x.Rank]]
def wJT (U:PHeap) (L_:List Res) (v:Value) (y:Int):Prop:=v=.int .i64 y/\L_=[]
def wGk (U:PHeap) (x:Int) (vs:List Value):Prop:=vs=[.int .i64 x]
def wHg (U:PHeap) (L_:List Res) (v:Value) (y:Bool):Prop:=v=.bool y/\L_=[]
def wIX (x:Int):Value:=.int .i64 x
def wJU (x:Bool):Value:=.bool x
def ar31 (U:PHeap) (x:(Int × Int)) (vs:List Value):Prop:=vs=[.int .i64 x.1,.int .i64 x.2]
def rr31 (U:PHeap) (L_:List Res) (v:Value) (y:Int):Prop:=v=.int .i64 y/\L_=[]
def wJY (x:Int):Value:=.int .i64 x
def wKB (x:Int):Value:=.int .i64 x
def wAC (x:wAA):List Value:=[.int .i64 x.Bib,.int .i64 x.Time,.int .i64 x.Gate]
def wAI (x:wAF):List Value:=[.int .i64 x.Mass,.int .i64 x.Reading]
def wHh (U:PHeap) (x:wAF) (vs:List Value):Prop:=vs=[.agg #[.int .i64 x.Mass,.int .i64 x.Reading]]
def wHi (U:PHeap) (L_:List Res) (v:Value) (y:Bool):Prop:=v=.bool y/\L_=[]
def wKw (U:PHeap) (x:wAP) (vs:List Value):Prop:=vs=[.agg #[.int .i64 x.Lo,.int .i64 x.Hi]]
def wKx (U:PHeap) (L_:List Res) (v:Value) (y:Int):Prop:=v=.int .i64 y/\L_=[]
def wKy (U:PHeap) (x:wAA) (vs:List Value):Prop:=vs=[.agg #[.int .i64 x.Bib,.int .i64 x.Time,.int .i64 x.Gate]]
def wKz (U:PHeap) (L_:List Res) (v:Value) (y:Bool):Prop:=v=.bool y/\L_=[]
def wLA (U:PHeap) (x:(wAA × wAA)) (vs:List Value):Prop:=vs=[.agg #[.int .i64 x.1.Bib,.int .i64 x.1.Time,.int .i64 x.1.Gate],.agg #[.int .i64 x.2.Bib,.int .i64 x.2.Time,.int .i64 x.2.Gate]]
def wLB (U:PHeap) (L_:List Res) (v:Value) (y:Bool):Prop:=v=.bool y/\L_=[]
theorem Try.mixed:Try.prog.follows .mixedOrders=true:=by kernel_rfl
theorem wJZ:wCy Try.prog 30 [(0,1),(1,1),(2,1),(3,1)]:=⟨_,Try.runUnderlying30,fun w=>by simp [Try.sizeOf3,Try.sizeOf27,Try.sizeOf28]⟩
theorem wJa:wCy Try.prog 33 [(0,1),(1,1),(2,1)]:=⟨_,Try.runUnderlying33,fun w=>by simp [Try.sizeOf3]⟩
theorem wJb:wCy Try.prog 35 [(0,1),(1,1)]:=⟨_,Try.runUnderlying35,fun w=>by simp [Try.sizeOf3]⟩
theorem wJc:wCy Try.prog 47 [(0,1),(1,1),(2,1)]:=⟨_,Try.runUnderlying47,fun w=>by simp [Try.sizeOf3]⟩
theorem wJd:wCy Try.prog 53 [(0,1),(1,1),(2,1)]:=⟨_,Try.runUnderlying53,fun w=>by simp [Try.sizeOf22,Try.sizeOf3,Try.sizeOf51]⟩
theorem wDy:wCy Try.prog 72 [(0,1),(1,1)]:=⟨_,Try.runUnderlying72,fun w=>by simp [Try.sizeOf3]⟩
theorem wJe:wCy Try.prog 77 [(0,4),(4,18)]:=⟨_,Try.runUnderlying77,fun w=>by simp [Try.sizeOf30,Try.sizeOf75]⟩
theorem wHG:wCy Try.prog 81 [(0,1)]:=⟨_,Try.runUnderlying81,fun w=>by simp [Try.sizeOf79]⟩
theorem wFm:wCy Try.prog 96 [(0,1),(1,1),(2,1)]:=⟨_,Try.runUnderlying96,fun w=>by simp [Try.sizeOf94,Try.sizeOf3]⟩
theorem wDF:Try.prog.info? 3=some Try.t3:=by kernel_rfl
theorem wLC:Try.prog.info? 33=some Try.t33:=by kernel_rfl
theorem wLD:Try.prog.info? 35=some Try.t35:=by kernel_rfl
theorem wKC:Try.prog.info? 47=some Try.t47:=by kernel_rfl
theorem eqS47 (d:Nat) (x y:wAA) (w:World):(Op.equalIn (d + 2) 47 (.agg (wAC x).toArray) (.agg (wAC y).toArray)).run Try.prog w=.ok (decide (x=y)) w:=by
 obtain ⟨x0,x1,x2⟩:=x
 obtain ⟨y0,y1,y2⟩:=y
 rw [run_equalIn_agg w (d + 1) 47 _ _ (wHb Try.runUnderlying47) (by kernel_rfl),wFB Try.runUnderlying47]
 by_cases h0:x0=y0 <;> by_cases h1:x1=y1 <;> by_cases h2:x2=y2 <;> simp [Op.eqFields,part,wAC,Result.andThen,Try.isAgg3,h0,run_equalIn_int _ (d + 0) 3 .i64 .i64 _ _ (wCg Try.runUnderlying3),h1,h2]
theorem eqG47:Try.prog.eqGuardType Try.prog.depth 47=false:=by kernel_rfl
theorem eqT47:EqT Try.prog 47 wAC:=fun x y w=>by
 unfold Op.equal Op.maxDepth;exact eqS47 9998 x y w
theorem wFY:KeyR Try.prog 3 wIX:=KeyR.ofInt (wCg Try.runUnderlying3)
theorem wHH:KeyR Try.prog 3 wJY:=KeyR.ofInt (wCg Try.runUnderlying3)
end Go.Proofs.Ytnbcoenjobdplaa
