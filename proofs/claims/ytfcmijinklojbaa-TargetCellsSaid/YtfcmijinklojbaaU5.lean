import Derived.Test.YtfcmijinklojbaaU0
import Derived.Test.YtfcmijinklojbaaU1
import Derived.Test.YtfcmijinklojbaaProg
import Derived.Test.YtfcmijinklojbaaU4
set_option linter.all false
namespace Go.Proofs.Ytfcmijinklojbaa
open Go.KL
def wAA (x:wAD):List Value:=[.int .i64 x.Skier,.int .i64 x.Lane]
def wAE (x:wAl):List Value:=[.int .i64 x.Skier,.int .i64 x.Lane]
def wLR (U:PHeap) (x:Int) (vs:List Value):Prop:=vs=[.int .i64 x]
def wOE (U:PHeap) (L_:List Res) (v:Value) (y:Bool):Prop:=v=.bool y/\L_=[]
def wSH (U:PHeap) (x:wAD) (vs:List Value):Prop:=vs=[.agg #[.int .i64 x.Skier,.int .i64 x.Lane]]
def wSI (U:PHeap) (L_:List Res) (v:Value) (y:Bool):Prop:=v=.bool y/\L_=[]
def wGP (x:wAD):Value:=.agg #[.int .i64 x.Skier,.int .i64 x.Lane]
def wGg (x:Bool):Value:=.bool x
def wAZ (x:wAH):List Value:=[.int .i64 x.Lo,.int .i64 x.Hi]
theorem Try.mixed:Try.prog.follows .mixedOrders=true:=by kernel_rfl
theorem wIw:wFh Try.prog 26 [(0,1),(1,1),(2,1)]:=⟨_,Try.runUnderlying26,fun w=>by simp [Try.sizeOf23,Try.sizeOf24]⟩
theorem wHF:wFh Try.prog 35 [(0,1),(1,1)]:=⟨_,Try.runUnderlying35,fun w=>by simp [Try.sizeOf3]⟩
theorem wBl:wFh Try.prog 44 [(0,1),(1,1)]:=⟨_,Try.runUnderlying44,fun w=>by simp [Try.sizeOf3]⟩
theorem wGQ:wFh Try.prog 54 [(0,1),(1,1),(2,1)]:=⟨_,Try.runUnderlying54,fun w=>by simp [Try.sizeOf23,Try.sizeOf52]⟩
theorem wPX:wFh Try.prog 99 [(0,3),(3,1),(4,64),(68,8),(76,16)]:=⟨_,Try.runUnderlying99,fun w=>by simp [Try.sizeOf26,Try.sizeOf92,Try.sizeOf95,Try.sizeOf93,Try.sizeOf97]⟩
theorem wOF:wFh Try.prog 124 [(0,1),(1,1)]:=⟨_,Try.runUnderlying124,fun w=>by simp [Try.sizeOf3]⟩
theorem wFr:Try.prog.info? 3=some Try.t3:=by kernel_rfl
theorem wLS:Try.prog.info? 35=some Try.t35:=by kernel_rfl
theorem wTF:Try.prog.info? 44=some Try.t44:=by kernel_rfl
theorem wRZ:Try.prog.info? 124=some Try.t124:=by kernel_rfl
theorem eqS35 (d:Nat) (x y:wAD) (w:World):(Op.equalIn (d + 2) 35 (.agg (wAA x).toArray) (.agg (wAA y).toArray)).run Try.prog w=.ok (decide (x=y)) w:=by
 obtain ⟨x0,x1⟩:=x
 obtain ⟨y0,y1⟩:=y
 rw [run_equalIn_agg w (d + 1) 35 _ _ (wGb Try.runUnderlying35) (by kernel_rfl),wEc Try.runUnderlying35]
 by_cases h0:x0=y0 <;> by_cases h1:x1=y1 <;> simp [Op.eqFields,part,wAA,Result.andThen,Try.isAgg3,h0,run_equalIn_int _ (d + 0) 3 .i64 .i64 _ _ (wEm Try.runUnderlying3),h1]
theorem eqG35:Try.prog.eqGuardType Try.prog.depth 35=false:=by kernel_rfl
theorem eqT35:EqT Try.prog 35 wAA:=fun x y w=>by
 unfold Op.equal Op.maxDepth;exact eqS35 9998 x y w
theorem eqS44 (d:Nat) (x y:wAH) (w:World):(Op.equalIn (d + 2) 44 (.agg (wAZ x).toArray) (.agg (wAZ y).toArray)).run Try.prog w=.ok (decide (x=y)) w:=by
 obtain ⟨x0,x1⟩:=x
 obtain ⟨y0,y1⟩:=y
 rw [run_equalIn_agg w (d + 1) 44 _ _ (wGb Try.runUnderlying44) (by kernel_rfl),wEc Try.runUnderlying44]
 by_cases h0:x0=y0 <;> by_cases h1:x1=y1 <;> simp [Op.eqFields,part,wAZ,Result.andThen,Try.isAgg3,h0,run_equalIn_int _ (d + 0) 3 .i64 .i64 _ _ (wEm Try.runUnderlying3),h1]
theorem wOG:Try.prog.eqGuardType Try.prog.depth 44=false:=by kernel_rfl
theorem wOH:EqT Try.prog 44 wAZ:=fun x y w=>by
 unfold Op.equal Op.maxDepth;exact eqS44 9998 x y w
theorem wTG (d:Nat) (x y:wAl) (w:World):(Op.equalIn (d + 2) 124 (.agg (wAE x).toArray) (.agg (wAE y).toArray)).run Try.prog w=.ok (decide (x=y)) w:=by
 obtain ⟨x0,x1⟩:=x
 obtain ⟨y0,y1⟩:=y
 rw [run_equalIn_agg w (d + 1) 124 _ _ (wGb Try.runUnderlying124) (by kernel_rfl),wEc Try.runUnderlying124]
 by_cases h0:x0=y0 <;> by_cases h1:x1=y1 <;> simp [Op.eqFields,part,wAE,Result.andThen,Try.isAgg3,h0,run_equalIn_int _ (d + 0) 3 .i64 .i64 _ _ (wEm Try.runUnderlying3),h1]
theorem wTH:Try.prog.eqGuardType Try.prog.depth 124=false:=by kernel_rfl
theorem wTI:EqT Try.prog 124 wAE:=fun x y w=>by
 unfold Op.equal Op.maxDepth;exact wTG 9998 x y w
theorem wJg:KeyR Try.prog 35 wGP:=Two.keyR (k:=.i64) ⟨wEm Try.runUnderlying35,rfl,rfl,by decide,rfl,rfl,by decide,wEm Try.runUnderlying3,Try.isAgg3,by kernel_rfl⟩ wGP (·.Skier) (·.Lane) (fun _=>rfl) (fun x y h1 h2=>by cases x;cases y;cases h1;cases h2;rfl)
end Go.Proofs.Ytfcmijinklojbaa
