import Derived.Test.YtfcmijinklojbaaGreatS1
import Derived.Test.YtfcmijinklojbaaGreatProg
import Derived.Test.YtfcmijinklojbaaGreatS3
import Derived.Test.YtfcmijinklojbaaGreatS4
set_option linter.all false
namespace Go.Proofs.YtfcmijinklojbaaGreat
open Go.KL
def wAB (x:wAA):List Value:=[.int .i64 x.Skier,.int .i64 x.Lane]
def wNt:Rl (List Int) where
 sz:=1
 r:=fun U x vs=>∃ (pA:Option Addr) (pc:Nat),vs=[.slice pA x.length pc]/\Sl U 1 pA pc x.length (List.flatMap KL.encI x)
 mono:=by rintro U U' x vs ⟨pA,pc,rfl,h0⟩ hl;exact ⟨pA,pc,rfl,h0.le hl⟩
 len:=by rintro U x vs ⟨_,_,rfl,_⟩;rfl
 one:=by rintro U x vs ⟨_,_,rfl,h0⟩;rfl
def ar62 (U:PHeap) (x:(wAA × wAA)) (vs:List Value):Prop:=vs=[.agg #[.int .i64 x.1.Skier,.int .i64 x.1.Lane],.agg #[.int .i64 x.2.Skier,.int .i64 x.2.Lane]]
def rr62 (U:PHeap) (L_:List Res) (v:Value) (y:Int):Prop:=v=.int .i64 y/\L_=[]
def wMv (U:PHeap) (x:wAA) (vs:List Value):Prop:=vs=[.agg #[.int .i64 x.Skier,.int .i64 x.Lane]]
def wMw (U:PHeap) (L_:List Res) (v:Value) (y:Bool):Prop:=v=.bool y/\L_=[]
def wMx (U:PHeap) (x:Int) (vs:List Value):Prop:=vs=[.int .i64 x]
def wPD (U:PHeap) (L_:List Res) (v:Value) (y:Bool):Prop:=v=.bool y/\L_=[]
def wDI (x:wAA):Value:=.agg #[.int .i64 x.Skier,.int .i64 x.Lane]
def wDZ (x:Bool):Value:=.bool x
def wBd (x:wBE):List Value:=[.int .i64 x.Lo,.int .i64 x.Hi]
theorem Tryz.mixed:Tryz.prog.follows .mixedOrders=true:=by kernel_rfl
theorem wJT:wEx Tryz.prog 25 [(0,1),(1,1),(2,1)]:=⟨_,Tryz.runUnderlying25,fun w=>by simp [Tryz.sizeOf22,Tryz.sizeOf23]⟩
theorem wDa:wEx Tryz.prog 59 [(0,1),(1,1)]:=⟨_,Tryz.runUnderlying59,fun w=>by simp [Tryz.sizeOf3]⟩
theorem wFa:wEx Tryz.prog 66 [(0,1),(1,1)]:=⟨_,Tryz.runUnderlying66,fun w=>by simp [Tryz.sizeOf3]⟩
theorem wLr:wEx Tryz.prog 118 [(0,3),(3,1),(4,64),(68,8),(76,16)]:=⟨_,Tryz.runUnderlying118,fun w=>by simp [Tryz.sizeOf25,Tryz.sizeOf111,Tryz.sizeOf114,Tryz.sizeOf112,Tryz.sizeOf116]⟩
theorem wLs:wEx Tryz.prog 124 [(0,1),(1,1),(2,1)]:=⟨_,Tryz.runUnderlying124,fun w=>by simp [Tryz.sizeOf53,Tryz.sizeOf3,Tryz.sizeOf122]⟩
theorem wDl:Tryz.prog.info? 3=some Tryz.t3:=by kernel_rfl
theorem wQc:Tryz.prog.info? 22=some Tryz.t22:=by kernel_rfl
theorem wLt:Tryz.prog.info? 59=some Tryz.t59:=by kernel_rfl
theorem eqS59 (d:Nat) (x y:wAA) (w:World):(Op.equalIn (d + 2) 59 (.agg (wAB x).toArray) (.agg (wAB y).toArray)).run Tryz.prog w=.ok (decide (x=y)) w:=by
 obtain ⟨x0,x1⟩:=x
 obtain ⟨y0,y1⟩:=y
 rw [run_equalIn_agg w (d + 1) 59 _ _ (wGj Tryz.runUnderlying59) (by kernel_rfl),wEO Tryz.runUnderlying59]
 by_cases h0:x0=y0 <;> by_cases h1:x1=y1 <;> simp [Op.eqFields,part,wAB,Result.andThen,Tryz.isAgg3,h0,run_equalIn_int _ (d + 0) 3 .i64 .i64 _ _ (wDe Tryz.runUnderlying3),h1]
theorem wQd:Tryz.prog.eqGuardType Tryz.prog.depth 59=false:=by kernel_rfl
theorem wQe:EqT Tryz.prog 59 wAB:=fun x y w=>by
 unfold Op.equal Op.maxDepth;exact eqS59 9998 x y w
theorem eqS66 (d:Nat) (x y:wBE) (w:World):(Op.equalIn (d + 2) 66 (.agg (wBd x).toArray) (.agg (wBd y).toArray)).run Tryz.prog w=.ok (decide (x=y)) w:=by
 obtain ⟨x0,x1⟩:=x
 obtain ⟨y0,y1⟩:=y
 rw [run_equalIn_agg w (d + 1) 66 _ _ (wGj Tryz.runUnderlying66) (by kernel_rfl),wEO Tryz.runUnderlying66]
 by_cases h0:x0=y0 <;> by_cases h1:x1=y1 <;> simp [Op.eqFields,part,wBd,Result.andThen,Tryz.isAgg3,h0,run_equalIn_int _ (d + 0) 3 .i64 .i64 _ _ (wDe Tryz.runUnderlying3),h1]
theorem wMy:Tryz.prog.eqGuardType Tryz.prog.depth 66=false:=by kernel_rfl
theorem wMz:EqT Tryz.prog 66 wBd:=fun x y w=>by
 unfold Op.equal Op.maxDepth;exact eqS66 9998 x y w
theorem wHR:KeyR Tryz.prog 59 wDI:=Two.keyR (k:=.i64) ⟨wDe Tryz.runUnderlying59,rfl,rfl,by decide,rfl,rfl,by decide,wDe Tryz.runUnderlying3,Tryz.isAgg3,by kernel_rfl⟩ wDI (·.Skier) (·.Lane) (fun _=>rfl) (fun x y h1 h2=>by cases x;cases y;cases h1;cases h2;rfl)
end Go.Proofs.YtfcmijinklojbaaGreat
