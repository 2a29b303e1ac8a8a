import Derived.Test.YtghaibkggdecnaaGreatZ0
import Derived.Test.YtghaibkggdecnaaGreatProg
import Derived.Test.YtghaibkggdecnaaGreatZ3
import Derived.Test.YtghaibkggdecnaaGreatZ4
set_option linter.all false
namespace Go.Proofs.YtghaibkggdecnaaGreat
open Go.KL
def wAC (x:wAA):List Value:=[.int .i64 x.Bib,.int .i64 x.Nation,.int .i64 x.Rank]
def wAF (x:wAE):List Value:=[.int .i64 x.Bib,.int .i64 x.Nation,.int .i64 x.Rank]
def wFi (U:PHeap) (x:wAA) (vs:List Value):Prop:=vs=[.agg #[.int .i64 x.Bib,.int .i64 x.Nation,.int .i64 x.Rank]]
def wFj (U:PHeap) (L_:List Res) (v:Value) (y:Int):Prop:=v=.int .i64 y/\L_=[]
def wJb (U:PHeap) (x:Int) (vs:List Value):Prop:=vs=[.int .i64 x]
def wJc (U:PHeap) (L_:List Res) (v:Value) (y:Bool):Prop:=v=.bool y/\L_=[]
def wLh (x:Int):Value:=.int .i64 x
def wMc (x:Bool):Value:=.bool x
def ar50 (U:PHeap) (x:(Int × Int)) (vs:List Value):Prop:=vs=[.int .i64 x.1,.int .i64 x.2]
def rr50 (U:PHeap) (L_:List Res) (v:Value) (y:Int):Prop:=v=.int .i64 y/\L_=[]
def wMH:Rl (List Int) where
 sz:=1
 r:=fun U x vs=>∃ (pA:Option Addr) (pc:Nat),vs=[.slice pA x.length pc]/\Sl U 1 pA pc x.length (List.flatMap KL.encI x)
 mono:=by rintro U U' x vs ⟨pA,pc,rfl,h0⟩ hl;exact ⟨pA,pc,rfl,h0.le hl⟩
 len:=by rintro U x vs ⟨_,_,rfl,_⟩;rfl
 one:=by rintro U x vs ⟨_,_,rfl,h0⟩;rfl
theorem Tryz.mixed:Tryz.prog.follows .mixedOrders=true:=by kernel_rfl
theorem wFW:wKC Tryz.prog 160 [(0,1),(1,1),(2,1)]:=⟨_,Tryz.runUnderlying160,fun w=>by simp [Tryz.sizeOf158,Tryz.sizeOf3]⟩
theorem wHI:Tryz.prog.info? 3=some Tryz.t3:=by kernel_rfl
theorem wNN:Tryz.prog.info? 31=some Tryz.t31:=by kernel_rfl
theorem wPj:Tryz.prog.info? 62=some Tryz.t62:=by kernel_rfl
theorem wOU:Tryz.prog.info? 157=some Tryz.t157:=by kernel_rfl
theorem eqS62 (d:Nat) (x y:wAA) (w:World):(Op.equalIn (d + 2) 62 (.agg (wAC x).toArray) (.agg (wAC y).toArray)).run Tryz.prog w=.ok (decide (x=y)) w:=by
 obtain ⟨x0,x1,x2⟩:=x
 obtain ⟨y0,y1,y2⟩:=y
 rw [run_equalIn_agg w (d + 1) 62 _ _ (wJF Tryz.runUnderlying62) (by kernel_rfl),wEv Tryz.runUnderlying62]
 by_cases h0:x0=y0 <;> by_cases h1:x1=y1 <;> by_cases h2:x2=y2 <;> simp [Op.eqFields,part,wAC,Result.andThen,Tryz.isAgg3,h0,run_equalIn_int _ (d + 0) 3 .i64 .i64 _ _ (wEN Tryz.runUnderlying3),h1,h2]
theorem eqG62:Tryz.prog.eqGuardType Tryz.prog.depth 62=false:=by kernel_rfl
theorem eqT62:EqT Tryz.prog 62 wAC:=fun x y w=>by
 unfold Op.equal Op.maxDepth;exact eqS62 9998 x y w
theorem wLi:KeyR Tryz.prog 3 wLh:=KeyR.ofInt (wEN Tryz.runUnderlying3)
end Go.Proofs.YtghaibkggdecnaaGreat
