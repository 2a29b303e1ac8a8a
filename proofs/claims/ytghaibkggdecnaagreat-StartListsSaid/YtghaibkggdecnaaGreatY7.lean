import Derived.Test.YtghaibkggdecnaaGreatY0
import Derived.Test.YtghaibkggdecnaaGreatY4
import Derived.Test.YtghaibkggdecnaaGreatProg
import Derived.Test.YtghaibkggdecnaaGreatY5
import Derived.Test.YtghaibkggdecnaaGreatY6
set_option linter.all false
namespace Go.Proofs.YtghaibkggdecnaaGreat
open Go.KL
def wAQ (x:wAE):List Value:=[.int .i64 x.Bib,.int .i64 x.Nation,.int .i64 x.Rank]
def wAC (x:wAA):List Value:=[.int .i64 x.Bib,.int .i64 x.Time,.int .i64 x.Gate]
def wAB (x:wAD):List Value:=[.int .i64 x.Bib,.int .i64 x.Time,.int .i64 x.Gate]
def wGh (U:PHeap) (x:wAE) (vs:List Value):Prop:=vs=[.agg #[.int .i64 x.Bib,.int .i64 x.Nation,.int .i64 x.Rank]]
def wGi (U:PHeap) (L_:List Res) (v:Value) (y:Int):Prop:=v=.int .i64 y/\L_=[]
def wNj (U:PHeap) (x:Int) (vs:List Value):Prop:=vs=[.int .i64 x]
def wNk (U:PHeap) (L_:List Res) (v:Value) (y:Bool):Prop:=v=.bool y/\L_=[]
def wMf (x:Int):Value:=.int .i64 x
def wNl (x:Bool):Value:=.bool x
def ar50 (U:PHeap) (x:(Int × Int)) (vs:List Value):Prop:=vs=[.int .i64 x.1,.int .i64 x.2]
def rr50 (U:PHeap) (L_:List Res) (v:Value) (y:Int):Prop:=v=.int .i64 y/\L_=[]
def wBI (x:wBQ):List Value:=[.int .i64 x.Bib,.int .i64 x.Row,.int .i64 x.Lane]
def wAR (x:wAS):List Value:=[.int .i64 x.Bib,.int .i64 x.Nation,.int .i64 x.Rank]
def wAL (x:wAP):List Value:=[.int .i64 x.Bib,.int .i64 x.Row,.int .i64 x.Lane]
def wOV (U:PHeap) (x:wAA) (vs:List Value):Prop:=vs=[.agg #[.int .i64 x.Bib,.int .i64 x.Time,.int .i64 x.Gate]]
def wOW (U:PHeap) (L_:List Res) (v:Value) (y:Bool):Prop:=v=.bool y/\L_=[]
theorem Tryz.mixed:Tryz.prog.follows .mixedOrders=true:=by kernel_rfl
theorem wFh:wFE Tryz.prog 54 [(0,1),(1,1),(2,1)]:=⟨_,Tryz.runUnderlying54,fun w=>by simp [Tryz.sizeOf3]⟩
theorem wNm:wFE Tryz.prog 70 [(0,1),(1,1),(2,1)]:=⟨_,Tryz.runUnderlying70,fun w=>by simp [Tryz.sizeOf3]⟩
theorem wIM:wFE Tryz.prog 117 [(0,1),(1,1),(2,1)]:=⟨_,Tryz.runUnderlying117,fun w=>by simp [Tryz.sizeOf3]⟩
theorem wEx:wFE Tryz.prog 132 [(0,1),(1,1),(2,1)]:=⟨_,Tryz.runUnderlying132,fun w=>by simp [Tryz.sizeOf3]⟩
theorem wGS:wFE Tryz.prog 160 [(0,1),(1,1),(2,1)]:=⟨_,Tryz.runUnderlying160,fun w=>by simp [Tryz.sizeOf158,Tryz.sizeOf3]⟩
theorem wEC:Tryz.prog.info? 3=some Tryz.t3:=by kernel_rfl
theorem wOX:Tryz.prog.info? 54=some Tryz.t54:=by kernel_rfl
theorem wQl:Tryz.prog.info? 62=some Tryz.t62:=by kernel_rfl
theorem wQm:Tryz.prog.info? 70=some Tryz.t70:=by kernel_rfl
theorem wMg:Tryz.prog.info? 117=some Tryz.t117:=by kernel_rfl
theorem wCi:Tryz.prog.info? 132=some Tryz.t132:=by kernel_rfl
theorem wPb:Tryz.prog.info? 157=some Tryz.t157:=by kernel_rfl
theorem eqS54 (d:Nat) (x y:wAA) (w:World):(Op.equalIn (d + 2) 54 (.agg (wAC x).toArray) (.agg (wAC y).toArray)).run Tryz.prog w=.ok (decide (x=y)) w:=by
 obtain ⟨x0,x1,x2⟩:=x
 obtain ⟨y0,y1,y2⟩:=y
 rw [run_equalIn_agg w (d + 1) 54 _ _ (wDw Tryz.runUnderlying54) (by kernel_rfl),wCp Tryz.runUnderlying54]
 by_cases h0:x0=y0 <;> by_cases h1:x1=y1 <;> by_cases h2:x2=y2 <;> simp [Op.eqFields,part,wAC,Result.andThen,Tryz.isAgg3,h0,run_equalIn_int _ (d + 0) 3 .i64 .i64 _ _ (wDl Tryz.runUnderlying3),h1,h2]
theorem eqG54:Tryz.prog.eqGuardType Tryz.prog.depth 54=false:=by kernel_rfl
theorem eqT54:EqT Tryz.prog 54 wAC:=fun x y w=>by
 unfold Op.equal Op.maxDepth;exact eqS54 9998 x y w
theorem eqS62 (d:Nat) (x y:wAE) (w:World):(Op.equalIn (d + 2) 62 (.agg (wAQ x).toArray) (.agg (wAQ y).toArray)).run Tryz.prog w=.ok (decide (x=y)) w:=by
 obtain ⟨x0,x1,x2⟩:=x
 obtain ⟨y0,y1,y2⟩:=y
 rw [run_equalIn_agg w (d + 1) 62 _ _ (wDw Tryz.runUnderlying62) (by kernel_rfl),wCp Tryz.runUnderlying62]
 by_cases h0:x0=y0 <;> by_cases h1:x1=y1 <;> by_cases h2:x2=y2 <;> simp [Op.eqFields,part,wAQ,Result.andThen,Tryz.isAgg3,h0,run_equalIn_int _ (d + 0) 3 .i64 .i64 _ _ (wDl Tryz.runUnderlying3),h1,h2]
theorem eqG62:Tryz.prog.eqGuardType Tryz.prog.depth 62=false:=by kernel_rfl
theorem eqT62:EqT Tryz.prog 62 wAQ:=fun x y w=>by
 unfold Op.equal Op.maxDepth;exact eqS62 9998 x y w
theorem wQn (d:Nat) (x y:wAP) (w:World):(Op.equalIn (d + 2) 117 (.agg (wAL x).toArray) (.agg (wAL y).toArray)).run Tryz.prog w=.ok (decide (x=y)) w:=by
 obtain ⟨x0,x1,x2⟩:=x
 obtain ⟨y0,y1,y2⟩:=y
 rw [run_equalIn_agg w (d + 1) 117 _ _ (wDw Tryz.runUnderlying117) (by kernel_rfl),wCp Tryz.runUnderlying117]
 by_cases h0:x0=y0 <;> by_cases h1:x1=y1 <;> by_cases h2:x2=y2 <;> simp [Op.eqFields,part,wAL,Result.andThen,Tryz.isAgg3,h0,run_equalIn_int _ (d + 0) 3 .i64 .i64 _ _ (wDl Tryz.runUnderlying3),h1,h2]
theorem wQo:Tryz.prog.eqGuardType Tryz.prog.depth 117=false:=by kernel_rfl
theorem wQp:EqT Tryz.prog 117 wAL:=fun x y w=>by
 unfold Op.equal Op.maxDepth;exact wQn 9998 x y w
theorem wQq (d:Nat) (x y:wAD) (w:World):(Op.equalIn (d + 2) 132 (.agg (wAB x).toArray) (.agg (wAB y).toArray)).run Tryz.prog w=.ok (decide (x=y)) w:=by
 obtain ⟨x0,x1,x2⟩:=x
 obtain ⟨y0,y1,y2⟩:=y
 rw [run_equalIn_agg w (d + 1) 132 _ _ (wDw Tryz.runUnderlying132) (by kernel_rfl),wCp Tryz.runUnderlying132]
 by_cases h0:x0=y0 <;> by_cases h1:x1=y1 <;> by_cases h2:x2=y2 <;> simp [Op.eqFields,part,wAB,Result.andThen,Tryz.isAgg3,h0,run_equalIn_int _ (d + 0) 3 .i64 .i64 _ _ (wDl Tryz.runUnderlying3),h1,h2]
theorem wQr:Tryz.prog.eqGuardType Tryz.prog.depth 132=false:=by kernel_rfl
theorem wQs:EqT Tryz.prog 132 wAB:=fun x y w=>by
 unfold Op.equal Op.maxDepth;exact wQq 9998 x y w
theorem wMh:KeyR Tryz.prog 3 wMf:=KeyR.ofInt (wDl Tryz.runUnderlying3)
end Go.Proofs.YtghaibkggdecnaaGreat
