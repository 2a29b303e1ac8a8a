import Derived.Test.YtkedcbligiebkaaGreatY1
import Derived.Test.YtkedcbligiebkaaGreatProg
import Derived.Test.YtkedcbligiebkaaGreatY5
import Derived.Test.YtkedcbligiebkaaGreatY4
set_option linter.all false
namespace Go.Proofs.YtkedcbligiebkaaGreat
open Go.KL
def wAL (x:wAG):List Value:=[.int .i64 x.Lo,.int .i64 x.Hi]
def wRt:Rl (List Int) where
 sz:=1
 r:=fun U x vs=>∃ (pA:Option Addr) (pc:Nat),vs=[.slice pA x.length pc]/\Sl U 1 pA pc x.length (List.flatMap KL.encI x)
 mono:=by rintro U U' x vs ⟨pA,pc,rfl,h0⟩ hl;exact ⟨pA,pc,rfl,h0.le hl⟩
 len:=by rintro U x vs ⟨_,_,rfl,_⟩;rfl
 one:=by rintro U x vs ⟨_,_,rfl,h0⟩;rfl
def wAA (x:wAH):List Value:=[.int .i64 x.Offset.Lo,.int .i64 x.Offset.Hi,.int .i64 x.Error]
def wAJ (x:wAX):List Value:=[.int .i64 x.Skier,.int .i64 x.Mat,.int .i64 x.Clock,.int .i64 x.Time]
def wAm (x:wAI):List Value:=[.int .i64 x.Bib,.int .i64 x.Time]
def wTe (U:PHeap) (x:wAI) (vs:List Value):Prop:=vs=[.agg #[.int .i64 x.Bib,.int .i64 x.Time]]
def wTf (U:PHeap) (L_:List Res) (v:Value) (y:Bool):Prop:=v=.bool y/\L_=[]
def wOf (x:Int):Value:=.int .i64 x
def wPh (x:Bool):Value:=.bool x
def wRu (U:PHeap) (x:(Int × Int)) (vs:List Value):Prop:=vs=[.int .i64 x.1,.int .i64 x.2]
def wRv (U:PHeap) (L_:List Res) (v:Value) (y:Int):Prop:=v=.int .i64 y/\L_=[]
def wBA (x:wAh):List Value:=[.int .i64 x.Bib,.int .i64 x.Time,.int .i64 x.Gate]
def wTg (U:PHeap) (x:Int) (vs:List Value):Prop:=vs=[.int .i64 x]
def wTh (U:PHeap) (L_:List Res) (v:Value) (y:Bool):Prop:=v=.bool y/\L_=[]
def wTi (U:PHeap) (x:wAG) (vs:List Value):Prop:=vs=[.agg #[.int .i64 x.Lo,.int .i64 x.Hi]]
def wTj (U:PHeap) (L_:List Res) (v:Value) (y:Bool):Prop:=v=.bool y/\L_=[]
def wTk (U:PHeap) (x:wAH) (vs:List Value):Prop:=vs=[.agg #[.int .i64 x.Offset.Lo,.int .i64 x.Offset.Hi,.int .i64 x.Error]]
def wTl (U:PHeap) (L_:List Res) (v:Value) (y:Bool):Prop:=v=.bool y/\L_=[]
def wRw (U:PHeap) (x:wAX) (vs:List Value):Prop:=vs=[.agg #[.int .i64 x.Skier,.int .i64 x.Mat,.int .i64 x.Clock,.int .i64 x.Time]]
def wRx (U:PHeap) (L_:List Res) (v:Value) (y:Bool):Prop:=v=.bool y/\L_=[]
def wCM (x:wAW):List Value:=[.int .i64 x.Skier,.int .i64 x.Mat]
def wHZ (x:wAC):List Value:=[.int .i64 x.skier,.int .i64 x.mat]
def wTm (U:PHeap) (x:wAK) (vs:List Value):Prop:=vs=[.agg #[.int .i64 x.Kind,.int .i64 x.Skier,.int .i64 x.Index,.bool x.Up]]
def wBO (x:wAC):Value:=.agg #[.int .i64 x.skier,.int .i64 x.mat]
def wBR (x:Int):Value:=.int .i64 x
def wAY (x:wAd):List Value:=[.int .i64 x.step.Kind,.int .i64 x.step.Skier,.int .i64 x.step.Index,.bool x.step.Up,.int .i64 x.from_,.int .i64 x.to_,.int .i64 x.count]
def wRy (U:PHeap) (x:wAW) (vs:List Value):Prop:=vs=[.agg #[.int .i64 x.Skier,.int .i64 x.Mat]]
def wRz (U:PHeap) (L_:List Res) (v:Value) (y:Bool):Prop:=v=.bool y/\L_=[]
def ar50 (U:PHeap) (x:wAh) (vs:List Value):Prop:=vs=[.agg #[.int .i64 x.Bib,.int .i64 x.Time,.int .i64 x.Gate]]
def rr50 (U:PHeap) (L_:List Res) (v:Value) (y:Bool):Prop:=v=.bool y/\L_=[]
theorem Tryz.mixed:Tryz.prog.follows .mixedOrders=true:=by kernel_rfl
theorem wPi:wCi Tryz.prog 36 [(0,1),(1,1)]:=⟨_,Tryz.runUnderlying36,fun w=>by simp [Tryz.sizeOf3]⟩
theorem wPj:wCi Tryz.prog 42 [(0,1),(1,1)]:=⟨_,Tryz.runUnderlying42,fun w=>by simp [Tryz.sizeOf3]⟩
theorem wPk:wCi Tryz.prog 49 [(0,1),(1,1),(2,1)]:=⟨_,Tryz.runUnderlying49,fun w=>by simp [Tryz.sizeOf3]⟩
theorem wEz:wCi Tryz.prog 53 [(0,1),(1,1)]:=⟨_,Tryz.runUnderlying53,fun w=>by simp [Tryz.sizeOf3]⟩
theorem wGo:wCi Tryz.prog 57 [(0,1),(1,1)]:=⟨_,Tryz.runUnderlying57,fun w=>by simp [Tryz.sizeOf3]⟩
theorem wPl:wCi Tryz.prog 76 [(0,2),(2,1)]:=⟨_,Tryz.runUnderlying76,fun w=>by simp [Tryz.sizeOf53,Tryz.sizeOf3]⟩
theorem wGp:wCi Tryz.prog 78 [(0,1),(1,1),(2,1),(3,1)]:=⟨_,Tryz.runUnderlying78,fun w=>by simp [Tryz.sizeOf3]⟩
theorem wPm:wCi Tryz.prog 81 [(0,1),(1,1),(2,1)]:=⟨_,Tryz.runUnderlying81,fun w=>by simp [Tryz.sizeOf22,Tryz.sizeOf3,Tryz.sizeOf79]⟩
theorem wBo:wCi Tryz.prog 95 [(0,1),(1,1)]:=⟨_,Tryz.runUnderlying95,fun w=>by simp [Tryz.sizeOf3]⟩
theorem wFv:wCi Tryz.prog 146 [(0,4),(4,1),(5,1)]:=⟨_,Tryz.runUnderlying146,fun w=>by simp [Tryz.sizeOf28,Tryz.sizeOf143,Tryz.sizeOf144]⟩
theorem wJj:wCi Tryz.prog 148 [(0,1),(1,1)]:=⟨_,Tryz.runUnderlying148,fun w=>by simp [Tryz.sizeOf23]⟩
theorem wFw:wCi Tryz.prog 210 [(0,1),(1,1),(2,1),(3,1)]:=⟨_,Tryz.runUnderlying210,fun w=>by simp [Tryz.sizeOf208,Tryz.sizeOf3,Tryz.sizeOf4]⟩
theorem wOg:wCi Tryz.prog 212 [(0,4),(4,1),(5,1),(6,1)]:=⟨_,Tryz.runUnderlying212,fun w=>by simp [Tryz.sizeOf210,Tryz.sizeOf3]⟩
theorem wFx:wCi Tryz.prog 299 [(0,1),(1,1),(2,1)]:=⟨_,Tryz.runUnderlying299,fun w=>by simp [Tryz.sizeOf295,Tryz.sizeOf296,Tryz.sizeOf297]⟩
theorem wJk:Tryz.prog.info? 3=some Tryz.t3:=by kernel_rfl
theorem wQh:Tryz.prog.info? 23=some Tryz.t23:=by kernel_rfl
theorem wTn:Tryz.prog.info? 36=some Tryz.t36:=by kernel_rfl
theorem wTo:Tryz.prog.info? 49=some Tryz.t49:=by kernel_rfl
theorem wQi:Tryz.prog.info? 53=some Tryz.t53:=by kernel_rfl
theorem wLg:Tryz.prog.info? 76=some Tryz.t76:=by kernel_rfl
theorem wTp:Tryz.prog.info? 78=some Tryz.t78:=by kernel_rfl
theorem wKs:Tryz.prog.info? 212=some Tryz.t212:=by kernel_rfl
theorem wDG:KeyR Tryz.prog 95 wBO:=Two.keyR (k:=.i64) ⟨wBu Tryz.runUnderlying95,rfl,rfl,by decide,rfl,rfl,by decide,wBu Tryz.runUnderlying3,Tryz.isAgg3,by kernel_rfl⟩ wBO (·.skier) (·.mat) (fun _=>rfl) (fun x y h1 h2=>by cases x;cases y;cases h1;cases h2;rfl)
theorem wOh:KeyR Tryz.prog 3 wOf:=KeyR.ofInt (wBu Tryz.runUnderlying3)
end Go.Proofs.YtkedcbligiebkaaGreat
