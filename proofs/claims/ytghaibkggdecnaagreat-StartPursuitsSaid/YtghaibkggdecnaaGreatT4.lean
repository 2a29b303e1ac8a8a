import Derived.Test.YtghaibkggdecnaaGreatT0
import Derived.Test.YtghaibkggdecnaaGreatProg
import Derived.Test.YtghaibkggdecnaaGreatT3
set_option linter.all false
namespace Go.Proofs.YtghaibkggdecnaaGreat
open Go.KL
def wAI (x:wAA):List Value:=[.int .i64 x.Bib,.int .i64 x.Time]
def wOn (U:PHeap) (x:wAA) (vs:List Value):Prop:=vs=[.agg #[.int .i64 x.Bib,.int .i64 x.Time]]
def wOo (U:PHeap) (L_:List Res) (v:Value) (y:Bool):Prop:=v=.bool y/\L_=[]
def wLE (x:Int):Value:=.int .i64 x
def wLv (x:Bool):Value:=.bool x
def wAK (x:wAN):List Value:=[.int .i64 x.Bib,.int .i64 x.Time]
def wNd (U:PHeap) (x:(Int × Int)) (vs:List Value):Prop:=vs=[.int .i64 x.1,.int .i64 x.2]
def wNe (U:PHeap) (L_:List Res) (v:Value) (y:Int):Prop:=v=.int .i64 y/\L_=[]
def wAa (x:wAY):List Value:=[.int .i64 x.Bib,.int .i64 x.Time,.int .i64 x.Gate]
def wAB (x:wAC):List Value:=[.int .i64 x.Bib,.int .i64 x.Time,.int .i64 x.Gate]
theorem Tryz.mixed:Tryz.prog.follows .mixedOrders=true:=by kernel_rfl
theorem wLw:wHb Tryz.prog 54 [(0,1),(1,1),(2,1)]:=⟨_,Tryz.runUnderlying54,fun w=>by simp [Tryz.sizeOf3]⟩
theorem wLF:wHb Tryz.prog 132 [(0,1),(1,1),(2,1)]:=⟨_,Tryz.runUnderlying132,fun w=>by simp [Tryz.sizeOf3]⟩
theorem wJP:Tryz.prog.info? 3=some Tryz.t3:=by kernel_rfl
theorem wOp:Tryz.prog.info? 28=some Tryz.t28:=by kernel_rfl
theorem wOq:Tryz.prog.info? 30=some Tryz.t30:=by kernel_rfl
theorem wOr:Tryz.prog.info? 54=some Tryz.t54:=by kernel_rfl
theorem wLG:Tryz.prog.info? 132=some Tryz.t132:=by kernel_rfl
theorem eqS28 (d:Nat) (x y:wAA) (w:World):(Op.equalIn (d + 2) 28 (.agg (wAI x).toArray) (.agg (wAI y).toArray)).run Tryz.prog w=.ok (decide (x=y)) w:=by
 obtain ⟨x0,x1⟩:=x
 obtain ⟨y0,y1⟩:=y
 rw [run_equalIn_agg w (d + 1) 28 _ _ (wFk Tryz.runUnderlying28) (by kernel_rfl),wDU Tryz.runUnderlying28]
 by_cases h0:x0=y0 <;> by_cases h1:x1=y1 <;> simp [Op.eqFields,part,wAI,Result.andThen,Tryz.isAgg3,h0,run_equalIn_int _ (d + 0) 3 .i64 .i64 _ _ (wEN Tryz.runUnderlying3),h1]
theorem eqG28:Tryz.prog.eqGuardType Tryz.prog.depth 28=false:=by kernel_rfl
theorem eqT28:EqT Tryz.prog 28 wAI:=fun x y w=>by
 unfold Op.equal Op.maxDepth;exact eqS28 9998 x y w
theorem wOs (d:Nat) (x y:wAC) (w:World):(Op.equalIn (d + 2) 132 (.agg (wAB x).toArray) (.agg (wAB y).toArray)).run Tryz.prog w=.ok (decide (x=y)) w:=by
 obtain ⟨x0,x1,x2⟩:=x
 obtain ⟨y0,y1,y2⟩:=y
 rw [run_equalIn_agg w (d + 1) 132 _ _ (wFk Tryz.runUnderlying132) (by kernel_rfl),wDU Tryz.runUnderlying132]
 by_cases h0:x0=y0 <;> by_cases h1:x1=y1 <;> by_cases h2:x2=y2 <;> simp [Op.eqFields,part,wAB,Result.andThen,Tryz.isAgg3,h0,run_equalIn_int _ (d + 0) 3 .i64 .i64 _ _ (wEN Tryz.runUnderlying3),h1,h2]
theorem wOt:Tryz.prog.eqGuardType Tryz.prog.depth 132=false:=by kernel_rfl
theorem wOu:EqT Tryz.prog 132 wAB:=fun x y w=>by
 unfold Op.equal Op.maxDepth;exact wOs 9998 x y w
theorem wLH:KeyR Tryz.prog 3 wLE:=KeyR.ofInt (wEN Tryz.runUnderlying3)
end Go.Proofs.YtghaibkggdecnaaGreat
