import Derived.Test.YthbficbpebiekaaGreatJ0
import Derived.Test.YthbficbpebiekaaGreatProg
import Derived.Test.YthbficbpebiekaaGreatJ3
import Derived.Test.YthbficbpebiekaaGreatJ4
set_option linter.all false
namespace Go.Proofs.YthbficbpebiekaaGreat
open Go.KL
def wAB (x:wAA):List Value:=[.int .i64 x.Bib,.int .i64 x.Nation,.int .i64 x.Rank]
def wFR (U:PHeap) (x:wAA) (vs:List Value):Prop:=vs=[.agg #[.int .i64 x.Bib,.int .i64 x.Nation,.int .i64 x.Rank]]
def wFS (U:PHeap) (L_:List Res) (v:Value) (y:Int):Prop:=v=.int .i64 y/\L_=[]
def wLd (U:PHeap) (x:Int) (vs:List Value):Prop:=vs=[.int .i64 x]
def wLe (U:PHeap) (L_:List Res) (v:Value) (y:Bool):Prop:=v=.bool y/\L_=[]
def wOV (x:Int):Value:=.int .i64 x
def mv74 (x:Bool):Value:=.bool x
def ar80 (U:PHeap) (x:(Int × Int)) (vs:List Value):Prop:=vs=[.int .i64 x.1,.int .i64 x.2]
def rr80 (U:PHeap) (L_:List Res) (v:Value) (y:Int):Prop:=v=.int .i64 y/\L_=[]
def wAG (x:wAO):List Value:=[.int .i64 x.Bib,.int .i64 x.Row,.int .i64 x.Lane]
def wNZ (x:Arr Int 2):Value:=.agg #[.int .i64 (x.get 0),.int .i64 (x.get 1)]
def mv86 (x:Bool):Value:=.bool x
theorem Tryz.mixed:Tryz.prog.follows .mixedOrders=true:=by kernel_rfl
theorem wLf:wEd Tryz.prog 88 [(0,1),(1,1),(2,1)]:=⟨_,Tryz.runUnderlying88,fun w=>by simp [Tryz.sizeOf3]⟩
theorem wIE:wEd Tryz.prog 90 [(0,1),(1,1),(2,1)]:=⟨_,Tryz.runUnderlying90,fun w=>by simp [Tryz.sizeOf3]⟩
theorem wKh:wEd Tryz.prog 184 [(0,1),(1,1),(2,1)]:=⟨_,Tryz.runUnderlying184,fun w=>by simp [Tryz.sizeOf60,Tryz.sizeOf3,Tryz.sizeOf182]⟩
theorem wFG:wEd Tryz.prog 316 [(0,1),(1,1),(2,1)]:=⟨_,Tryz.runUnderlying316,fun w=>by simp [Tryz.sizeOf314,Tryz.sizeOf3]⟩
theorem wLg:Tryz.prog.info? 3=some Tryz.t3:=by kernel_rfl
theorem info4:Tryz.prog.info? 4=some Tryz.t4:=by kernel_rfl
theorem wOW:Tryz.prog.info? 88=some Tryz.t88:=by kernel_rfl
theorem wIF:Tryz.prog.info? 90=some Tryz.t90:=by kernel_rfl
theorem eqS88 (d:Nat) (x y:wAO) (w:World):(Op.equalIn (d + 2) 88 (.agg (wAG x).toArray) (.agg (wAG y).toArray)).run Tryz.prog w=.ok (decide (x=y)) w:=by
 obtain ⟨x0,x1,x2⟩:=x
 obtain ⟨y0,y1,y2⟩:=y
 rw [run_equalIn_agg w (d + 1) 88 _ _ (wIR Tryz.runUnderlying88) (by kernel_rfl),wEg Tryz.runUnderlying88]
 by_cases h0:x0=y0 <;> by_cases h1:x1=y1 <;> by_cases h2:x2=y2 <;> simp [Op.eqFields,part,wAG,Result.andThen,Tryz.isAgg3,h0,run_equalIn_int _ (d + 0) 3 .i64 .i64 _ _ (wCR Tryz.runUnderlying3),h1,h2]
theorem eqG88:Tryz.prog.eqGuardType Tryz.prog.depth 88=false:=by kernel_rfl
theorem eqT88:EqT Tryz.prog 88 wAG:=fun x y w=>by
 unfold Op.equal Op.maxDepth;exact eqS88 9998 x y w
theorem wMI:KeyR Tryz.prog 3 wOV:=KeyR.ofInt (wCR Tryz.runUnderlying3)
theorem wMJ:KeyR Tryz.prog 68 wNZ:=TwoA.keyR (k:=.i64) ⟨wCR Tryz.runUnderlying68,wCR Tryz.runUnderlying3,Tryz.isAgg3,Tryz.sizeOf3⟩ wNZ (·.get 0) (·.get 1) (fun _=>rfl) (fun _ _ h1 h2=>Arr.two_inj h1 h2)
end Go.Proofs.YthbficbpebiekaaGreat
