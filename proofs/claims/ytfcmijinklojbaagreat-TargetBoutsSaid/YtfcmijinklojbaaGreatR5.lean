import Derived.Test.YtfcmijinklojbaaGreatR0
import Derived.Test.YtfcmijinklojbaaGreatR1
import Derived.Test.YtfcmijinklojbaaGreatProg
import Derived.Test.YtfcmijinklojbaaGreatR4
set_option linter.all false
namespace Go.Proofs.YtfcmijinklojbaaGreat
open Go.KL
def wAA (x:wAC):List Value:=[.int .i64 x.Skier,.int .i64 x.Lane]
def wEV:Rl (List Int) where
 sz:=1
 r:=fun U x vs=>∃ (pA:Option Addr) (pc:Nat),vs=[.slice pA x.length pc]/\Sl U 1 pA pc x.length (List.flatMap KL.encI x)
 mono:=by rintro U U' x vs ⟨pA,pc,rfl,h0⟩ hl;exact ⟨pA,pc,rfl,h0.le hl⟩
 len:=by rintro U x vs ⟨_,_,rfl,_⟩;rfl
 one:=by rintro U x vs ⟨_,_,rfl,h0⟩;rfl
def wAD (x:wAU):List Value:=[.int .i64 x.Skier,.int .i64 x.Lane]
def wJx (U:PHeap) (x:Int) (vs:List Value):Prop:=vs=[.int .i64 x]
def wLQ (U:PHeap) (L_:List Res) (v:Value) (y:Bool):Prop:=v=.bool y/\L_=[]
def wQz (U:PHeap) (x:wAC) (vs:List Value):Prop:=vs=[.agg #[.int .i64 x.Skier,.int .i64 x.Lane]]
def wRA (U:PHeap) (L_:List Res) (v:Value) (y:Bool):Prop:=v=.bool y/\L_=[]
def wDP (x:wAC):Value:=.agg #[.int .i64 x.Skier,.int .i64 x.Lane]
def wDl (x:Bool):Value:=.bool x
def wJy (U:PHeap) (x:List Int) (vs:List Value):Prop:=∃ (pA_0:Option Addr) (pc_0:Nat),vs=[.slice pA_0 x.length pc_0]/\Sl U 1 pA_0 pc_0 x.length (List.flatMap KL.encI x)
def wJz (U:PHeap) (L_:List Res) (v:Value) (y:Bool):Prop:=v=.bool y/\L_=[]
theorem Tryz.mixed:Tryz.prog.follows .mixedOrders=true:=by kernel_rfl
theorem wOZ:wFp Tryz.prog 25 [(0,1),(1,1),(2,1)]:=⟨_,Tryz.runUnderlying25,fun w=>by simp [Tryz.sizeOf22,Tryz.sizeOf23]⟩
theorem wOa:wFp Tryz.prog 34 [(0,1),(1,1),(2,1)]:=⟨_,Tryz.runUnderlying34,fun w=>by simp [Tryz.sizeOf22,Tryz.sizeOf32]⟩
theorem wIV:wFp Tryz.prog 59 [(0,1),(1,1)]:=⟨_,Tryz.runUnderlying59,fun w=>by simp [Tryz.sizeOf3]⟩
theorem wOb:wFp Tryz.prog 95 [(0,1),(1,1)]:=⟨_,Tryz.runUnderlying95,fun w=>by simp [Tryz.sizeOf3]⟩
theorem wNL:wFp Tryz.prog 118 [(0,3),(3,1),(4,64),(68,8),(76,16)]:=⟨_,Tryz.runUnderlying118,fun w=>by simp [Tryz.sizeOf25,Tryz.sizeOf111,Tryz.sizeOf114,Tryz.sizeOf112,Tryz.sizeOf116]⟩
theorem wQV:Tryz.prog.info? 3=some Tryz.t3:=by kernel_rfl
theorem wPM:Tryz.prog.info? 22=some Tryz.t22:=by kernel_rfl
theorem wSA:Tryz.prog.info? 59=some Tryz.t59:=by kernel_rfl
theorem wSB:Tryz.prog.info? 95=some Tryz.t95:=by kernel_rfl
theorem eqS59 (d:Nat) (x y:wAC) (w:World):(Op.equalIn (d + 2) 59 (.agg (wAA x).toArray) (.agg (wAA y).toArray)).run Tryz.prog w=.ok (decide (x=y)) w:=by
 obtain ⟨x0,x1⟩:=x
 obtain ⟨y0,y1⟩:=y
 rw [run_equalIn_agg w (d + 1) 59 _ _ (wHi Tryz.runUnderlying59) (by kernel_rfl),wFE Tryz.runUnderlying59]
 by_cases h0:x0=y0 <;> by_cases h1:x1=y1 <;> simp [Op.eqFields,part,wAA,Result.andThen,Tryz.isAgg3,h0,run_equalIn_int _ (d + 0) 3 .i64 .i64 _ _ (wEr Tryz.runUnderlying3),h1]
theorem eqG59:Tryz.prog.eqGuardType Tryz.prog.depth 59=false:=by kernel_rfl
theorem eqT59:EqT Tryz.prog 59 wAA:=fun x y w=>by
 unfold Op.equal Op.maxDepth;exact eqS59 9998 x y w
theorem eqS95 (d:Nat) (x y:wAU) (w:World):(Op.equalIn (d + 2) 95 (.agg (wAD x).toArray) (.agg (wAD y).toArray)).run Tryz.prog w=.ok (decide (x=y)) w:=by
 obtain ⟨x0,x1⟩:=x
 obtain ⟨y0,y1⟩:=y
 rw [run_equalIn_agg w (d + 1) 95 _ _ (wHi Tryz.runUnderlying95) (by kernel_rfl),wFE Tryz.runUnderlying95]
 by_cases h0:x0=y0 <;> by_cases h1:x1=y1 <;> simp [Op.eqFields,part,wAD,Result.andThen,Tryz.isAgg3,h0,run_equalIn_int _ (d + 0) 3 .i64 .i64 _ _ (wEr Tryz.runUnderlying3),h1]
theorem eqG95:Tryz.prog.eqGuardType Tryz.prog.depth 95=false:=by kernel_rfl
theorem eqT95:EqT Tryz.prog 95 wAD:=fun x y w=>by
 unfold Op.equal Op.maxDepth;exact eqS95 9998 x y w
theorem wIW:KeyR Tryz.prog 59 wDP:=Two.keyR (k:=.i64) ⟨wEr Tryz.runUnderlying59,rfl,rfl,by decide,rfl,rfl,by decide,wEr Tryz.runUnderlying3,Tryz.isAgg3,by kernel_rfl⟩ wDP (·.Skier) (·.Lane) (fun _=>rfl) (fun x y h1 h2=>by cases x;cases y;cases h1;cases h2;rfl)
end Go.Proofs.YtfcmijinklojbaaGreat
