import Derived.Test.YtfcmijinklojbaaT1
import Derived.Test.YtfcmijinklojbaaProg
import Derived.Test.YtfcmijinklojbaaT3
set_option linter.all false
namespace Go.Proofs.Ytfcmijinklojbaa
open Go.KL
def wAB (x:wAA):List Value:=[.int .i64 x.Skier,.int .i64 x.Lane]
def wNP:Rl (List Int) where
 sz:=1
 r:=fun U x vs=>∃ (pA:Option Addr) (pc:Nat),vs=[.slice pA x.length pc]/\Sl U 1 pA pc x.length (List.flatMap KL.encI x)
 mono:=by rintro U U' x vs ⟨pA,pc,rfl,h0⟩ hl;exact ⟨pA,pc,rfl,h0.le hl⟩
 len:=by rintro U x vs ⟨_,_,rfl,_⟩;rfl
 one:=by rintro U x vs ⟨_,_,rfl,h0⟩;rfl
def wKh (U:PHeap) (x:Int) (vs:List Value):Prop:=vs=[.int .i64 x]
def wMX (U:PHeap) (L_:List Res) (v:Value) (y:Bool):Prop:=v=.bool y/\L_=[]
def wQJ (U:PHeap) (x:wAA) (vs:List Value):Prop:=vs=[.agg #[.int .i64 x.Skier,.int .i64 x.Lane]]
def wQK (U:PHeap) (L_:List Res) (v:Value) (y:Bool):Prop:=v=.bool y/\L_=[]
def wFL (x:wAA):Value:=.agg #[.int .i64 x.Skier,.int .i64 x.Lane]
def wFc (x:Bool):Value:=.bool x
theorem Try.mixed:Try.prog.follows .mixedOrders=true:=by kernel_rfl
theorem wJy:wFX Try.prog 26 [(0,1),(1,1),(2,1)]:=⟨_,Try.runUnderlying26,fun w=>by simp [Try.sizeOf23,Try.sizeOf24]⟩
theorem wDm:wFX Try.prog 35 [(0,1),(1,1)]:=⟨_,Try.runUnderlying35,fun w=>by simp [Try.sizeOf3]⟩
theorem wCo:wFX Try.prog 44 [(0,1),(1,1)]:=⟨_,Try.runUnderlying44,fun w=>by simp [Try.sizeOf3]⟩
theorem wNk:wFX Try.prog 87 [(0,1),(1,1),(2,1)]:=⟨_,Try.runUnderlying87,fun w=>by simp [Try.sizeOf22,Try.sizeOf3,Try.sizeOf85]⟩
theorem wNl:wFX Try.prog 99 [(0,3),(3,1),(4,64),(68,8),(76,16)]:=⟨_,Try.runUnderlying99,fun w=>by simp [Try.sizeOf26,Try.sizeOf92,Try.sizeOf95,Try.sizeOf93,Try.sizeOf97]⟩
theorem wJT:Try.prog.info? 3=some Try.t3:=by kernel_rfl
theorem wOW:Try.prog.info? 23=some Try.t23:=by kernel_rfl
theorem wOX:Try.prog.info? 35=some Try.t35:=by kernel_rfl
theorem eqS35 (d:Nat) (x y:wAA) (w:World):(Op.equalIn (d + 2) 35 (.agg (wAB x).toArray) (.agg (wAB y).toArray)).run Try.prog w=.ok (decide (x=y)) w:=by
 obtain ⟨x0,x1⟩:=x
 obtain ⟨y0,y1⟩:=y
 rw [run_equalIn_agg w (d + 1) 35 _ _ (wKM Try.runUnderlying35) (by kernel_rfl),wGL Try.runUnderlying35]
 by_cases h0:x0=y0 <;> by_cases h1:x1=y1 <;> simp [Op.eqFields,part,wAB,Result.andThen,Try.isAgg3,h0,run_equalIn_int _ (d + 0) 3 .i64 .i64 _ _ (wDq Try.runUnderlying3),h1]
theorem eqG35:Try.prog.eqGuardType Try.prog.depth 35=false:=by kernel_rfl
theorem eqT35:EqT Try.prog 35 wAB:=fun x y w=>by
 unfold Op.equal Op.maxDepth;exact eqS35 9998 x y w
theorem wIb:KeyR Try.prog 35 wFL:=Two.keyR (k:=.i64) ⟨wDq Try.runUnderlying35,rfl,rfl,by decide,rfl,rfl,by decide,wDq Try.runUnderlying3,Try.isAgg3,by kernel_rfl⟩ wFL (·.Skier) (·.Lane) (fun _=>rfl) (fun x y h1 h2=>by cases x;cases y;cases h1;cases h2;rfl)
end Go.Proofs.Ytfcmijinklojbaa
