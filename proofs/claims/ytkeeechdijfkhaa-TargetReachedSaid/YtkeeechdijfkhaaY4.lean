import Derived.Test.YtkeeechdijfkhaaY0
import Derived.Test.YtkeeechdijfkhaaY1
import Derived.Test.YtkeeechdijfkhaaProg
import Derived.Test.YtkeeechdijfkhaaY3
set_option linter.all false
namespace Go.Proofs.Ytkeeechdijfkhaa
open Go.KL
def wAB (x:wAA):List Value:=[.int .i64 x.Skier,.int .i64 x.Lane]
def wMG:Rl (List Int) where
 sz:=1
 r:=fun U x vs=>∃ (pA:Option Addr) (pc:Nat),vs=[.slice pA x.length pc]/\Sl U 1 pA pc x.length (List.flatMap KL.encI x)
 mono:=by rintro U U' x vs ⟨pA,pc,rfl,h0⟩ hl;exact ⟨pA,pc,rfl,h0.le hl⟩
 len:=by rintro U x vs ⟨_,_,rfl,_⟩;rfl
 one:=by rintro U x vs ⟨_,_,rfl,h0⟩;rfl
def wMb (U:PHeap) (x:Int) (vs:List Value):Prop:=vs=[.int .i64 x]
def wOT (U:PHeap) (L_:List Res) (v:Value) (y:Bool):Prop:=v=.bool y/\L_=[]
def wJx (U:PHeap) (x:wAA) (vs:List Value):Prop:=vs=[.agg #[.int .i64 x.Skier,.int .i64 x.Lane]]
def wJy (U:PHeap) (L_:List Res) (v:Value) (y:Bool):Prop:=v=.bool y/\L_=[]
def wGK (x:wAA):Value:=.agg #[.int .i64 x.Skier,.int .i64 x.Lane]
def wGi (x:Bool):Value:=.bool x
theorem Try.mixed:Try.prog.follows .mixedOrders=true:=by kernel_rfl
theorem wJU:wEj Try.prog 26 [(0,1),(1,1),(2,1)]:=⟨_,Try.runUnderlying26,fun w=>by simp [Try.sizeOf23,Try.sizeOf24]⟩
theorem wHJ:wEj Try.prog 33 [(0,1),(1,1)]:=⟨_,Try.runUnderlying33,fun w=>by simp [Try.sizeOf3]⟩
theorem wCR:wEj Try.prog 39 [(0,1),(1,1)]:=⟨_,Try.runUnderlying39,fun w=>by simp [Try.sizeOf3]⟩
theorem wMc:wEj Try.prog 51 [(0,1),(1,1),(2,1)]:=⟨_,Try.runUnderlying51,fun w=>by simp [Try.sizeOf22,Try.sizeOf3,Try.sizeOf49]⟩
theorem wMd:wEj Try.prog 67 [(0,3),(3,1),(4,64),(68,8),(76,16)]:=⟨_,Try.runUnderlying67,fun w=>by simp [Try.sizeOf26,Try.sizeOf60,Try.sizeOf63,Try.sizeOf61,Try.sizeOf65]⟩
theorem wEz:Try.prog.info? 3=some Try.t3:=by kernel_rfl
theorem wNJ:Try.prog.info? 23=some Try.t23:=by kernel_rfl
theorem wHp:Try.prog.info? 39=some Try.t39:=by kernel_rfl
theorem eqS39 (d:Nat) (x y:wAA) (w:World):(Op.equalIn (d + 2) 39 (.agg (wAB x).toArray) (.agg (wAB y).toArray)).run Try.prog w=.ok (decide (x=y)) w:=by
 obtain ⟨x0,x1⟩:=x
 obtain ⟨y0,y1⟩:=y
 rw [run_equalIn_agg w (d + 1) 39 _ _ (wJd Try.runUnderlying39) (by kernel_rfl),wFW Try.runUnderlying39]
 by_cases h0:x0=y0 <;> by_cases h1:x1=y1 <;> simp [Op.eqFields,part,wAB,Result.andThen,Try.isAgg3,h0,run_equalIn_int _ (d + 0) 3 .i64 .i64 _ _ (wDW Try.runUnderlying3),h1]
theorem eqG39:Try.prog.eqGuardType Try.prog.depth 39=false:=by kernel_rfl
theorem eqT39:EqT Try.prog 39 wAB:=fun x y w=>by
 unfold Op.equal Op.maxDepth;exact eqS39 9998 x y w
theorem wJV:KeyR Try.prog 39 wGK:=Two.keyR (k:=.i64) ⟨wDW Try.runUnderlying39,rfl,rfl,by decide,rfl,rfl,by decide,wDW Try.runUnderlying3,Try.isAgg3,by kernel_rfl⟩ wGK (·.Skier) (·.Lane) (fun _=>rfl) (fun x y h1 h2=>by cases x;cases y;cases h1;cases h2;rfl)
end Go.Proofs.Ytkeeechdijfkhaa
