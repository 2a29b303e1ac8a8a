import Derived.Test.YtkeeechdijfkhaaGreatY1
import Derived.Test.YtkeeechdijfkhaaGreatProg
import Derived.Test.YtkeeechdijfkhaaGreatY4
import Derived.Test.YtkeeechdijfkhaaGreatY5
set_option linter.all false
namespace Go.Proofs.YtkeeechdijfkhaaGreat
open Go.KL
def wAP (x:wAH):List Value:=[.int .i64 x.Lo,.int .i64 x.Hi]
def wSF:Rl (List Int) where
 sz:=1
 r:=fun U x vs=>∃ (pA:Option Addr) (pc:Nat),vs=[.slice pA x.length pc]/\Sl U 1 pA pc x.length (List.flatMap KL.encI x)
 mono:=by rintro U U' x vs ⟨pA,pc,rfl,h0⟩ hl;exact ⟨pA,pc,rfl,h0.le hl⟩
 len:=by rintro U x vs ⟨_,_,rfl,_⟩;rfl
 one:=by rintro U x vs ⟨_,_,rfl,h0⟩;rfl
def wAA (x:wAI):List Value:=[.int .i64 x.Offset.Lo,.int .i64 x.Offset.Hi,.int .i64 x.Error]
def wAL (x:wAW):List Value:=[.int .i64 x.Skier,.int .i64 x.Mat,.int .i64 x.Clock,.int .i64 x.Time]
def wAY (x:wAG):List Value:=[.int .i64 x.Who,.int .i64 x.From,.int .i64 x.To]
def ar79 (U:PHeap) (x:Int) (vs:List Value):Prop:=vs=[.int .i64 x]
def rr79 (U:PHeap) (L_:List Res) (v:Value) (y:Bool):Prop:=v=.bool y/\L_=[]
def wSx (U:PHeap) (x:wAH) (vs:List Value):Prop:=vs=[.agg #[.int .i64 x.Lo,.int .i64 x.Hi]]
def wSy (U:PHeap) (L_:List Res) (v:Value) (y:Bool):Prop:=v=.bool y/\L_=[]
def wSz (U:PHeap) (x:wAI) (vs:List Value):Prop:=vs=[.agg #[.int .i64 x.Offset.Lo,.int .i64 x.Offset.Hi,.int .i64 x.Error]]
def wTA (U:PHeap) (L_:List Res) (v:Value) (y:Bool):Prop:=v=.bool y/\L_=[]
def wRW (U:PHeap) (x:wAW) (vs:List Value):Prop:=vs=[.agg #[.int .i64 x.Skier,.int .i64 x.Mat,.int .i64 x.Clock,.int .i64 x.Time]]
def wRX (U:PHeap) (L_:List Res) (v:Value) (y:Bool):Prop:=v=.bool y/\L_=[]
def wDU (x:wAa):List Value:=[.int .i64 x.Skier,.int .i64 x.Mat]
def wHQ (x:wAF):List Value:=[.int .i64 x.skier,.int .i64 x.mat]
def wTB (U:PHeap) (x:wAK) (vs:List Value):Prop:=vs=[.agg #[.int .i64 x.Kind,.int .i64 x.Skier,.int .i64 x.Index,.bool x.Up]]
def wDD (x:wAF):Value:=.agg #[.int .i64 x.skier,.int .i64 x.mat]
def wDV (x:Int):Value:=.int .i64 x
def wAZ (x:wAd):List Value:=[.int .i64 x.step.Kind,.int .i64 x.step.Skier,.int .i64 x.step.Index,.bool x.step.Up,.int .i64 x.from_,.int .i64 x.to_,.int .i64 x.count]
def ar89 (U:PHeap) (x:wAa) (vs:List Value):Prop:=vs=[.agg #[.int .i64 x.Skier,.int .i64 x.Mat]]
def rr89 (U:PHeap) (L_:List Res) (v:Value) (y:Bool):Prop:=v=.bool y/\L_=[]
def wRY (U:PHeap) (x:wAG) (vs:List Value):Prop:=vs=[.agg #[.int .i64 x.Who,.int .i64 x.From,.int .i64 x.To]]
def wRZ (U:PHeap) (L_:List Res) (v:Value) (y:Bool):Prop:=v=.bool y/\L_=[]
def wRa (U:PHeap) (x:(Int × Int)) (vs:List Value):Prop:=vs=[.int .i64 x.1,.int .i64 x.2]
def wRb (U:PHeap) (L_:List Res) (v:Value) (y:Int):Prop:=v=.int .i64 y/\L_=[]
theorem Tryz.mixed:Tryz.prog.follows .mixedOrders=true:=by kernel_rfl
theorem wLg:wDE Tryz.prog 37 [(0,1),(1,1)]:=⟨_,Tryz.runUnderlying37,fun w=>by simp [Tryz.sizeOf3]⟩
theorem wFt:wDE Tryz.prog 39 [(0,1),(1,1)]:=⟨_,Tryz.runUnderlying39,fun w=>by simp [Tryz.sizeOf3]⟩
theorem wPb:wDE Tryz.prog 55 [(0,2),(2,1)]:=⟨_,Tryz.runUnderlying55,fun w=>by simp [Tryz.sizeOf39,Tryz.sizeOf3]⟩
theorem wGg:wDE Tryz.prog 57 [(0,1),(1,1),(2,1),(3,1)]:=⟨_,Tryz.runUnderlying57,fun w=>by simp [Tryz.sizeOf3]⟩
theorem wPc:wDE Tryz.prog 60 [(0,1),(1,1),(2,1)]:=⟨_,Tryz.runUnderlying60,fun w=>by simp [Tryz.sizeOf22,Tryz.sizeOf3,Tryz.sizeOf58]⟩
theorem wPd:wDE Tryz.prog 62 [(0,1),(1,1),(2,1)]:=⟨_,Tryz.runUnderlying62,fun w=>by simp [Tryz.sizeOf3]⟩
theorem wBr:wDE Tryz.prog 68 [(0,1),(1,1)]:=⟨_,Tryz.runUnderlying68,fun w=>by simp [Tryz.sizeOf3]⟩
theorem wLh:wDE Tryz.prog 91 [(0,1),(1,1)]:=⟨_,Tryz.runUnderlying91,fun w=>by simp [Tryz.sizeOf23]⟩
theorem wGh:wDE Tryz.prog 97 [(0,4),(4,1),(5,1)]:=⟨_,Tryz.runUnderlying97,fun w=>by simp [Tryz.sizeOf28,Tryz.sizeOf94,Tryz.sizeOf95]⟩
theorem wFu:wDE Tryz.prog 118 [(0,1),(1,1),(2,1),(3,1)]:=⟨_,Tryz.runUnderlying118,fun w=>by simp [Tryz.sizeOf116,Tryz.sizeOf3,Tryz.sizeOf4]⟩
theorem wOW:wDE Tryz.prog 120 [(0,4),(4,1),(5,1),(6,1)]:=⟨_,Tryz.runUnderlying120,fun w=>by simp [Tryz.sizeOf118,Tryz.sizeOf3]⟩
theorem wFv:wDE Tryz.prog 179 [(0,1),(1,1),(2,1)]:=⟨_,Tryz.runUnderlying179,fun w=>by simp [Tryz.sizeOf175,Tryz.sizeOf176,Tryz.sizeOf177]⟩
theorem wJX:Tryz.prog.info? 3=some Tryz.t3:=by kernel_rfl
theorem wTC:Tryz.prog.info? 23=some Tryz.t23:=by kernel_rfl
theorem wTD:Tryz.prog.info? 39=some Tryz.t39:=by kernel_rfl
theorem wLi:Tryz.prog.info? 55=some Tryz.t55:=by kernel_rfl
theorem wTE:Tryz.prog.info? 57=some Tryz.t57:=by kernel_rfl
theorem wTF:Tryz.prog.info? 62=some Tryz.t62:=by kernel_rfl
theorem wKm:Tryz.prog.info? 120=some Tryz.t120:=by kernel_rfl
theorem wEY:KeyR Tryz.prog 68 wDD:=Two.keyR (k:=.i64) ⟨wCM Tryz.runUnderlying68,rfl,rfl,by decide,rfl,rfl,by decide,wCM Tryz.runUnderlying3,Tryz.isAgg3,by kernel_rfl⟩ wDD (·.skier) (·.mat) (fun _=>rfl) (fun x y h1 h2=>by cases x;cases y;cases h1;cases h2;rfl)
end Go.Proofs.YtkeeechdijfkhaaGreat
