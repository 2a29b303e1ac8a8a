import Derived.Test.YtbpllbhagaoocaaGreatZ0
import Derived.Test.YtbpllbhagaoocaaGreatZ4
import Derived.Test.YtbpllbhagaoocaaGreatProg
import Derived.Test.YtbpllbhagaoocaaGreatZ3
import Derived.Test.YtbpllbhagaoocaaGreatZ6
import Derived.Test.YtbpllbhagaoocaaGreatZ5
set_option linter.all false
namespace Go.Proofs.YtbpllbhagaoocaaGreat
open Go.KL
def wDc:Rl (List Int) where
 sz:=1
 r:=fun U x vs=>∃ (pA:Option Addr) (pc:Nat),vs=[.slice pA x.length pc]/\Sl U 1 pA pc x.length (List.flatMap KL.encI x)
 mono:=by rintro U U' x vs ⟨pA,pc,rfl,h0⟩ hl;exact ⟨pA,pc,rfl,h0.le hl⟩
 len:=by rintro U x vs ⟨_,_,rfl,_⟩;rfl
 one:=by rintro U x vs ⟨_,_,rfl,h0⟩;rfl
def wOZ (U:PHeap) (x:List Int) (vs:List Value):Prop:=∃ (pA_0:Option Addr) (pc_0:Nat),vs=[.slice pA_0 x.length pc_0]/\Sl U 1 pA_0 pc_0 x.length (List.flatMap KL.encI x)
def wOa (U:PHeap) (L_:List Res) (v:Value) (y:Bool):Prop:=v=.bool y/\L_=[]
def wLS (U:PHeap) (x:Int) (vs:List Value):Prop:=vs=[.int .i64 x]
def wOb (U:PHeap) (L_:List Res) (v:Value) (y:Bool):Prop:=v=.bool y/\L_=[]
def wLT (x:Int):Value:=.int .i64 x
def wMT (x:Bool):Value:=.bool x
def wAI (x:wAC):List Value:=[.int .i64 x.Bib,.int .i64 x.Done,.int .i64 x.Time,.int .i64 x.By]
def wPr (U:PHeap) (x:(wAC × wAC)) (vs:List Value):Prop:=vs=[.agg #[.int .i64 x.1.Bib,.int .i64 x.1.Done,.int .i64 x.1.Time,.int .i64 x.1.By],.agg #[.int .i64 x.2.Bib,.int .i64 x.2.Done,.int .i64 x.2.Time,.int .i64 x.2.By]]
def wPs (U:PHeap) (L_:List Res) (v:Value) (y:Int):Prop:=v=.int .i64 y/\L_=[]
def wAB (x:wAJ):List Value:=[.int .i64 x.Bib,.int .i64 x.Done,.int .i64 x.Time,.int .i64 x.By]
theorem Tryz.mixed:Tryz.prog.follows .mixedOrders=true:=by kernel_rfl
theorem wMU:wEV Tryz.prog 26 [(0,1),(1,1),(2,1)]:=⟨_,Tryz.runUnderlying26,fun w=>by simp [Tryz.sizeOf3,Tryz.sizeOf23,Tryz.sizeOf24]⟩
theorem wMV:wEV Tryz.prog 38 [(0,1),(1,1),(2,1),(3,1)]:=⟨_,Tryz.runUnderlying38,fun w=>by simp [Tryz.sizeOf3]⟩
theorem wGs:wEV Tryz.prog 58 [(0,1),(1,1),(2,1)]:=⟨_,Tryz.runUnderlying58,fun w=>by simp [Tryz.sizeOf3,Tryz.sizeOf23,Tryz.sizeOf24]⟩
theorem wMW:wEV Tryz.prog 64 [(0,1),(1,1),(2,1),(3,1)]:=⟨_,Tryz.runUnderlying64,fun w=>by simp [Tryz.sizeOf3]⟩
theorem wIz:wEV Tryz.prog 78 [(0,3),(3,1),(4,1)]:=⟨_,Tryz.runUnderlying78,fun w=>by simp [Tryz.sizeOf26,Tryz.sizeOf23,Tryz.sizeOf76]⟩
theorem wFy:Tryz.prog.info? 3=some Tryz.t3:=by kernel_rfl
theorem wMX:Tryz.prog.info? 4=some Tryz.t4:=by kernel_rfl
theorem wPt:Tryz.prog.info? 23=some Tryz.t23:=by kernel_rfl
theorem wPu:Tryz.prog.info? 38=some Tryz.t38:=by kernel_rfl
theorem wLU:Tryz.prog.info? 64=some Tryz.t64:=by kernel_rfl
theorem eqS64 (d:Nat) (x y:wAJ) (w:World):(Op.equalIn (d + 2) 64 (.agg (wAB x).toArray) (.agg (wAB y).toArray)).run Tryz.prog w=.ok (decide (x=y)) w:=by
 obtain ⟨x0,x1,x2,x3⟩:=x
 obtain ⟨y0,y1,y2,y3⟩:=y
 rw [run_equalIn_agg w (d + 1) 64 _ _ (wJJ Tryz.runUnderlying64) (by kernel_rfl),wFJ Tryz.runUnderlying64]
 by_cases h0:x0=y0 <;> by_cases h1:x1=y1 <;> by_cases h2:x2=y2 <;> by_cases h3:x3=y3 <;> simp [Op.eqFields,part,wAB,Result.andThen,Tryz.isAgg3,h0,run_equalIn_int _ (d + 0) 3 .i64 .i64 _ _ (wCM Tryz.runUnderlying3),h1,h2,h3]
theorem eqG64:Tryz.prog.eqGuardType Tryz.prog.depth 64=false:=by kernel_rfl
theorem eqT64:EqT Tryz.prog 64 wAB:=fun x y w=>by
 unfold Op.equal Op.maxDepth;exact eqS64 9998 x y w
theorem wLV:KeyR Tryz.prog 3 wLT:=KeyR.ofInt (wCM Tryz.runUnderlying3)
end Go.Proofs.YtbpllbhagaoocaaGreat
