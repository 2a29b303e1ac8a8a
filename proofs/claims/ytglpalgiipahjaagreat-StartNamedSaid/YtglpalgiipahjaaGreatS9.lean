import Derived.Test.YtglpalgiipahjaaGreatS1
import Derived.Test.YtglpalgiipahjaaGreatS6
import Derived.Test.YtglpalgiipahjaaGreatProg
import Derived.Test.YtglpalgiipahjaaGreatS3
import Derived.Test.YtglpalgiipahjaaGreatS8
import Derived.Test.YtglpalgiipahjaaGreatS7
set_option linter.all false
namespace Go.Proofs.YtglpalgiipahjaaGreat
open Go.KL
def wAK (x:wAA):List Value:=[.int .i64 x.Bib,.int .i64 x.Nation,.int .i64 x.Rank]
def wHR (U:PHeap) (x:wAA) (vs:List Value):Prop:=vs=[.agg #[.int .i64 x.Bib,.int .i64 x.Nation,.int .i64 x.Rank]]
def wHS (U:PHeap) (L_:List Res) (v:Value) (y:Int):Prop:=v=.int .i64 y/\L_=[]
def wHB (U:PHeap) (x:Int) (vs:List Value):Prop:=vs=[.int .i64 x]
def wIH (U:PHeap) (L_:List Res) (v:Value) (y:Bool):Prop:=v=.bool y/\L_=[]
def wNu (x:Int):Value:=.int .i64 x
def wPS (x:Bool):Value:=.bool x
def ar69 (U:PHeap) (x:(Int × Int)) (vs:List Value):Prop:=vs=[.int .i64 x.1,.int .i64 x.2]
def rr69 (U:PHeap) (L_:List Res) (v:Value) (y:Int):Prop:=v=.int .i64 y/\L_=[]
def wAY (x:wAt):List Value:=[.int .i64 x.Bib,.int .i64 x.Row,.int .i64 x.Lane]
def wII (x:Int):Value:=.int .i64 x
def wJH (x:Int):Value:=.int .i64 x
def wBH:Rl (List Int) where
 sz:=1
 r:=fun U x vs=>∃ (pA:Option Addr) (pc:Nat),vs=[.slice pA x.length pc]/\Sl U 1 pA pc x.length (List.flatMap KL.encI x)
 mono:=by rintro U U' x vs ⟨pA,pc,rfl,h0⟩ hl;exact ⟨pA,pc,rfl,h0.le hl⟩
 len:=by rintro U x vs ⟨_,_,rfl,_⟩;rfl
 one:=by rintro U x vs ⟨_,_,rfl,h0⟩;rfl
def wRX (U:PHeap) (x:List Int) (vs:List Value):Prop:=∃ (pA_0:Option Addr) (pc_0:Nat),vs=[.slice pA_0 x.length pc_0]/\Sl U 1 pA_0 pc_0 x.length (List.flatMap KL.encI x)
def wRY (U:PHeap) (L_:List Res) (v:Value) (y:Bool):Prop:=v=.bool y/\L_=[]
def wAJ (x:wAE):List Value:=[.int .i64 x.Bib,.int .i64 x.Done,.int .i64 x.Time,.int .i64 x.By]
def wSv (U:PHeap) (x:(wAE × wAE)) (vs:List Value):Prop:=vs=[.agg #[.int .i64 x.1.Bib,.int .i64 x.1.Done,.int .i64 x.1.Time,.int .i64 x.1.By],.agg #[.int .i64 x.2.Bib,.int .i64 x.2.Done,.int .i64 x.2.Time,.int .i64 x.2.By]]
def wSw (U:PHeap) (L_:List Res) (v:Value) (y:Int):Prop:=v=.int .i64 y/\L_=[]
theorem Tryz.mixed:Tryz.prog.follows .mixedOrders=true:=by kernel_rfl
theorem wPT:wEM Tryz.prog 45 [(0,1),(1,1),(2,1),(3,1)]:=⟨_,Tryz.runUnderlying45,fun w=>by simp [Tryz.sizeOf3]⟩
theorem wCi:wEM Tryz.prog 66 [(0,1),(1,1),(2,1)]:=⟨_,Tryz.runUnderlying66,fun w=>by simp [Tryz.sizeOf3,Tryz.sizeOf22,Tryz.sizeOf46]⟩
theorem wNv:wEM Tryz.prog 141 [(0,1),(1,1),(2,1)]:=⟨_,Tryz.runUnderlying141,fun w=>by simp [Tryz.sizeOf3]⟩
theorem wNw:wEM Tryz.prog 148 [(0,1),(1,1),(2,1)]:=⟨_,Tryz.runUnderlying148,fun w=>by simp [Tryz.sizeOf3]⟩
theorem wNx:wEM Tryz.prog 192 [(0,1),(1,1),(2,1)]:=⟨_,Tryz.runUnderlying192,fun w=>by simp [Tryz.sizeOf61,Tryz.sizeOf3,Tryz.sizeOf190]⟩
theorem wJI:wEM Tryz.prog 204 [(0,3),(3,1),(4,1)]:=⟨_,Tryz.runUnderlying204,fun w=>by simp [Tryz.sizeOf66,Tryz.sizeOf22,Tryz.sizeOf77]⟩
theorem wHC:wEM Tryz.prog 339 [(0,1),(1,1),(2,1)]:=⟨_,Tryz.runUnderlying339,fun w=>by simp [Tryz.sizeOf337,Tryz.sizeOf3]⟩
theorem wCc:Tryz.prog.info? 3=some Tryz.t3:=by kernel_rfl
theorem wPU:Tryz.prog.info? 4=some Tryz.t4:=by kernel_rfl
theorem wJJ:Tryz.prog.info? 22=some Tryz.t22:=by kernel_rfl
theorem wSx:Tryz.prog.info? 45=some Tryz.t45:=by kernel_rfl
theorem wNy:Tryz.prog.info? 141=some Tryz.t141:=by kernel_rfl
theorem wRZ:Tryz.prog.info? 148=some Tryz.t148:=by kernel_rfl
theorem eqS45 (d:Nat) (x y:wAE) (w:World):(Op.equalIn (d + 2) 45 (.agg (wAJ x).toArray) (.agg (wAJ y).toArray)).run Tryz.prog w=.ok (decide (x=y)) w:=by
 obtain ⟨x0,x1,x2,x3⟩:=x
 obtain ⟨y0,y1,y2,y3⟩:=y
 rw [run_equalIn_agg w (d + 1) 45 _ _ (wHZ Tryz.runUnderlying45) (by kernel_rfl),wEw Tryz.runUnderlying45]
 by_cases h0:x0=y0 <;> by_cases h1:x1=y1 <;> by_cases h2:x2=y2 <;> by_cases h3:x3=y3 <;> simp [Op.eqFields,part,wAJ,Result.andThen,Tryz.isAgg3,h0,run_equalIn_int _ (d + 0) 3 .i64 .i64 _ _ (wCV Tryz.runUnderlying3),h1,h2,h3]
theorem eqG45:Tryz.prog.eqGuardType Tryz.prog.depth 45=false:=by kernel_rfl
theorem eqT45:EqT Tryz.prog 45 wAJ:=fun x y w=>by
 unfold Op.equal Op.maxDepth;exact eqS45 9998 x y w
theorem wSy (d:Nat) (x y:wAt) (w:World):(Op.equalIn (d + 2) 148 (.agg (wAY x).toArray) (.agg (wAY y).toArray)).run Tryz.prog w=.ok (decide (x=y)) w:=by
 obtain ⟨x0,x1,x2⟩:=x
 obtain ⟨y0,y1,y2⟩:=y
 rw [run_equalIn_agg w (d + 1) 148 _ _ (wHZ Tryz.runUnderlying148) (by kernel_rfl),wEw Tryz.runUnderlying148]
 by_cases h0:x0=y0 <;> by_cases h1:x1=y1 <;> by_cases h2:x2=y2 <;> simp [Op.eqFields,part,wAY,Result.andThen,Tryz.isAgg3,h0,run_equalIn_int _ (d + 0) 3 .i64 .i64 _ _ (wCV Tryz.runUnderlying3),h1,h2]
theorem wSz:Tryz.prog.eqGuardType Tryz.prog.depth 148=false:=by kernel_rfl
theorem wTA:EqT Tryz.prog 148 wAY:=fun x y w=>by
 unfold Op.equal Op.maxDepth;exact wSy 9998 x y w
theorem wNz:KeyR Tryz.prog 3 wNu:=KeyR.ofInt (wCV Tryz.runUnderlying3)
theorem wIJ:KeyR Tryz.prog 3 wII:=KeyR.ofInt (wCV Tryz.runUnderlying3)
end Go.Proofs.YtglpalgiipahjaaGreat
