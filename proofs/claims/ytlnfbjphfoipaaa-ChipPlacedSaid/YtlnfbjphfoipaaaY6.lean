import Derived.Test.YtlnfbjphfoipaaaY1
import Derived.Test.YtlnfbjphfoipaaaProg
import Derived.Test.YtlnfbjphfoipaaaY5
import Derived.Test.YtlnfbjphfoipaaaY4
set_option linter.all false
namespace Go.Proofs.Ytlnfbjphfoipaaa
open Go.KL
def wAJ (x:wAF):List Value:=[.int .i64 x.Lo,.int .i64 x.Hi]
def wJT:Rl (List Int) where
 sz:=1
 r:=fun U x vs=>∃ (pA:Option Addr) (pc:Nat),vs=[.slice pA x.length pc]/\Sl U 1 pA pc x.length (List.flatMap KL.encI x)
 mono:=by rintro U U' x vs ⟨pA,pc,rfl,h0⟩ hl;exact ⟨pA,pc,rfl,h0.le hl⟩
 len:=by rintro U x vs ⟨_,_,rfl,_⟩;rfl
 one:=by rintro U x vs ⟨_,_,rfl,h0⟩;rfl
def wAA (x:wAI):List Value:=[.int .i64 x.Offset.Lo,.int .i64 x.Offset.Hi,.int .i64 x.Error]
def wAH (x:wAR):List Value:=[.int .i64 x.Skier,.int .i64 x.Mat,.int .i64 x.Clock,.int .i64 x.Time]
def ar76 (U:PHeap) (x:Int) (vs:List Value):Prop:=vs=[.int .i64 x]
def rr76 (U:PHeap) (L_:List Res) (v:Value) (y:Bool):Prop:=v=.bool y/\L_=[]
def wSA (U:PHeap) (x:wAF) (vs:List Value):Prop:=vs=[.agg #[.int .i64 x.Lo,.int .i64 x.Hi]]
def wSB (U:PHeap) (L_:List Res) (v:Value) (y:Bool):Prop:=v=.bool y/\L_=[]
def wSC (U:PHeap) (x:wAI) (vs:List Value):Prop:=vs=[.agg #[.int .i64 x.Offset.Lo,.int .i64 x.Offset.Hi,.int .i64 x.Error]]
def wSD (U:PHeap) (L_:List Res) (v:Value) (y:Bool):Prop:=v=.bool y/\L_=[]
def wQY (U:PHeap) (x:wAR) (vs:List Value):Prop:=vs=[.agg #[.int .i64 x.Skier,.int .i64 x.Mat,.int .i64 x.Clock,.int .i64 x.Time]]
def wQZ (U:PHeap) (L_:List Res) (v:Value) (y:Bool):Prop:=v=.bool y/\L_=[]
def wBR (x:wAQ):List Value:=[.int .i64 x.Skier,.int .i64 x.Mat]
def wHB (x:wAC):List Value:=[.int .i64 x.skier,.int .i64 x.mat]
def wSE (U:PHeap) (x:wAK) (vs:List Value):Prop:=vs=[.agg #[.int .i64 x.Kind,.int .i64 x.Skier,.int .i64 x.Index,.bool x.Up]]
def wAu (x:wAC):Value:=.agg #[.int .i64 x.skier,.int .i64 x.mat]
def wAv (x:Int):Value:=.int .i64 x
def wAS (x:wAZ):List Value:=[.int .i64 x.step.Kind,.int .i64 x.step.Skier,.int .i64 x.step.Index,.bool x.step.Up,.int .i64 x.from_,.int .i64 x.to_,.int .i64 x.count]
def wQa (U:PHeap) (x:wAQ) (vs:List Value):Prop:=vs=[.agg #[.int .i64 x.Skier,.int .i64 x.Mat]]
def wQb (U:PHeap) (L_:List Res) (v:Value) (y:Bool):Prop:=v=.bool y/\L_=[]
theorem Try.mixed:Try.prog.follows .mixedOrders=true:=by kernel_rfl
theorem wGM:wDN Try.prog 39 [(0,1),(1,1),(2,1),(3,1)]:=⟨_,Try.runUnderlying39,fun w=>by simp [Try.sizeOf3]⟩
theorem wEd:wDN Try.prog 41 [(0,1),(1,1)]:=⟨_,Try.runUnderlying41,fun w=>by simp [Try.sizeOf3]⟩
theorem wOf:wDN Try.prog 43 [(0,2),(2,1)]:=⟨_,Try.runUnderlying43,fun w=>by simp [Try.sizeOf41,Try.sizeOf3]⟩
theorem wIU:wDN Try.prog 45 [(0,1),(1,1)]:=⟨_,Try.runUnderlying45,fun w=>by simp [Try.sizeOf3]⟩
theorem wGN:wDN Try.prog 78 [(0,1),(1,1),(2,1),(3,1)]:=⟨_,Try.runUnderlying78,fun w=>by simp [Try.sizeOf74,Try.sizeOf3,Try.sizeOf4]⟩
theorem wOg:wDN Try.prog 94 [(0,1),(1,1),(2,1)]:=⟨_,Try.runUnderlying94,fun w=>by simp [Try.sizeOf22,Try.sizeOf3,Try.sizeOf92]⟩
theorem wAz:wDN Try.prog 104 [(0,1),(1,1)]:=⟨_,Try.runUnderlying104,fun w=>by simp [Try.sizeOf3]⟩
theorem wJC:wDN Try.prog 118 [(0,1),(1,1)]:=⟨_,Try.runUnderlying118,fun w=>by simp [Try.sizeOf23]⟩
theorem wFX:wDN Try.prog 124 [(0,4),(4,1),(5,1)]:=⟨_,Try.runUnderlying124,fun w=>by simp [Try.sizeOf28,Try.sizeOf121,Try.sizeOf122]⟩
theorem wNf:wDN Try.prog 130 [(0,4),(4,1),(5,1),(6,1)]:=⟨_,Try.runUnderlying130,fun w=>by simp [Try.sizeOf78,Try.sizeOf3]⟩
theorem wFY:wDN Try.prog 169 [(0,1),(1,1),(2,1)]:=⟨_,Try.runUnderlying169,fun w=>by simp [Try.sizeOf165,Try.sizeOf166,Try.sizeOf167]⟩
theorem wKF:Try.prog.info? 3=some Try.t3:=by kernel_rfl
theorem wNg:Try.prog.info? 23=some Try.t23:=by kernel_rfl
theorem wSF:Try.prog.info? 39=some Try.t39:=by kernel_rfl
theorem wPQ:Try.prog.info? 41=some Try.t41:=by kernel_rfl
theorem wKr:Try.prog.info? 43=some Try.t43:=by kernel_rfl
theorem wKG:Try.prog.info? 130=some Try.t130:=by kernel_rfl
theorem wCD:KeyR Try.prog 104 wAu:=Two.keyR (k:=.i64) ⟨wBh Try.runUnderlying104,rfl,rfl,by decide,rfl,rfl,by decide,wBh Try.runUnderlying3,Try.isAgg3,by kernel_rfl⟩ wAu (·.skier) (·.mat) (fun _=>rfl) (fun x y h1 h2=>by cases x;cases y;cases h1;cases h2;rfl)
end Go.Proofs.Ytlnfbjphfoipaaa
