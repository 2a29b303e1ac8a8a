import Derived.Test.YtlmekamhphnmjaaGreatQ0
import Derived.Test.YtlmekamhphnmjaaGreatQ1
import Derived.Test.YtlmekamhphnmjaaGreatProg
import Derived.Test.YtlmekamhphnmjaaGreatQ2
set_option linter.all false
namespace Go.Proofs.YtlmekamhphnmjaaGreat
open Go.KL
def wMR (U:PHeap) (x:Int) (vs:List Value):Prop:=vs=[.int .i64 x]
def wMS (U:PHeap) (L_:List Res) (v:Value) (y:Bool):Prop:=v=.bool y/\L_=[]
def wBL (x:wAE):List Value:=[.int .i64 x.From,.int .i64 x.To,.int .i64 x.Loops.Lo,.int .i64 x.Loops.Hi]
def wIX (U:PHeap) (x:wAE) (vs:List Value):Prop:=vs=[.agg #[.int .i64 x.From,.int .i64 x.To,.int .i64 x.Loops.Lo,.int .i64 x.Loops.Hi]]
def wIY (U:PHeap) (L_:List Res) (v:Value) (y:Bool):Prop:=v=.bool y/\L_=[]
def wLo (U:PHeap) (x:Unit) (vs:List Value):Prop:=vs=[]
def wLp (U:PHeap) (L_:List Res) (v:Value) (y:Int):Prop:=v=.int .i64 y/\L_=[]
def wEj:Rl wAL where
 sz:=5
 r:=fun U x vs=>∃ (pv_3:Value),vs=[.int .i64 x.Step.Kind,.int .i64 x.Step.Index,.int .i64 x.from_,.int .i64 x.to_,pv_3]/\FnOK Tryz.prog U pv_3 wLo wLp x.count
 mono:=by rintro U U' x vs ⟨pv_3,rfl,h0⟩ hl;exact ⟨pv_3,rfl,h0.le hl⟩
 len:=by rintro U x vs ⟨_,rfl,_⟩;rfl
 one:=by rintro U x vs ⟨_,rfl,h0⟩;obtain ⟨_,_,_,rfl,_⟩:=h0;rfl
def wMT:Rl (List Int) where
 sz:=1
 r:=fun U x vs=>∃ (pA:Option Addr) (pc:Nat),vs=[.slice pA x.length pc]/\Sl U 1 pA pc x.length (List.flatMap KL.encI x)
 mono:=by rintro U U' x vs ⟨pA,pc,rfl,h0⟩ hl;exact ⟨pA,pc,rfl,h0.le hl⟩
 len:=by rintro U x vs ⟨_,_,rfl,_⟩;rfl
 one:=by rintro U x vs ⟨_,_,rfl,h0⟩;rfl
def wMU:Rl (List wAE) where
 sz:=1
 r:=fun U x vs=>∃ (pA:Option Addr) (pc:Nat),vs=[.slice pA x.length pc]/\Sl U 4 pA pc x.length (List.flatMap wBL x)
 mono:=by rintro U U' x vs ⟨pA,pc,rfl,h0⟩ hl;exact ⟨pA,pc,rfl,h0.le hl⟩
 len:=by rintro U x vs ⟨_,_,rfl,_⟩;rfl
 one:=by rintro U x vs ⟨_,_,rfl,h0⟩;rfl
def wAF (x:wAH):List Value:=[.int .i64 x.Bib,.int .i64 x.Time]
def wJX (U:PHeap) (x:wAH) (vs:List Value):Prop:=vs=[.agg #[.int .i64 x.Bib,.int .i64 x.Time]]
def wJY (U:PHeap) (L_:List Res) (v:Value) (y:Bool):Prop:=v=.bool y/\L_=[]
def wAD (x:wAC):List Value:=[.int .i64 x.Number,.int .i64 x.Kind,.int .i64 x.Minute,.int .i64 x.Bib,.int .i64 x.Much,.int .i64 x.About]
def wHs (U:PHeap) (x:wAC) (vs:List Value):Prop:=vs=[.agg #[.int .i64 x.Number,.int .i64 x.Kind,.int .i64 x.Minute,.int .i64 x.Bib,.int .i64 x.Much,.int .i64 x.About]]
def wHt (U:PHeap) (L_:List Res) (v:Value) (y:Bool):Prop:=v=.bool y/\L_=[]
def wDv (x:Int):Value:=.int .i64 x
def wDw (x:Bool):Value:=.bool x
def wMg (U:PHeap) (x:(wAH × wAH)) (vs:List Value):Prop:=vs=[.agg #[.int .i64 x.1.Bib,.int .i64 x.1.Time],.agg #[.int .i64 x.2.Bib,.int .i64 x.2.Time]]
def wMh (U:PHeap) (L_:List Res) (v:Value) (y:Int):Prop:=v=.int .i64 y/\L_=[]
def wMi (U:PHeap) (x:(wAC × wAC)) (vs:List Value):Prop:=vs=[.agg #[.int .i64 x.1.Number,.int .i64 x.1.Kind,.int .i64 x.1.Minute,.int .i64 x.1.Bib,.int .i64 x.1.Much,.int .i64 x.1.About],.agg #[.int .i64 x.2.Number,.int .i64 x.2.Kind,.int .i64 x.2.Minute,.int .i64 x.2.Bib,.int .i64 x.2.Much,.int .i64 x.2.About]]
def wMj (U:PHeap) (L_:List Res) (v:Value) (y:Int):Prop:=v=.int .i64 y/\L_=[]
def wMk (U:PHeap) (x:(Int × wAC)) (vs:List Value):Prop:=vs=[.int .i64 x.1,.agg #[.int .i64 x.2.Number,.int .i64 x.2.Kind,.int .i64 x.2.Minute,.int .i64 x.2.Bib,.int .i64 x.2.Much,.int .i64 x.2.About]]
def wEQ (x:Int):Value:=.int .i64 x
def wEZ (x:wAC):Value:=.agg #[.int .i64 x.Number,.int .i64 x.Kind,.int .i64 x.Minute,.int .i64 x.Bib,.int .i64 x.Much,.int .i64 x.About]
def wER (x:Int):Value:=.int .i64 x
def wEa (_:Unit):Value:=.slice none 0 0
def wLq (U:PHeap) (x:Int) (vs:List Value):Prop:=vs=[.int .i64 x]
def wLr (U:PHeap) (L_:List Res) (v:Value) (y:Bool):Prop:=v=.bool y/\L_=[]
def wAB (x:wAA):List Value:=[.int .i64 x.Bib,.int .i64 x.Place,.int .i64 x.Total]
def wIZ (U:PHeap) (x:(wAA × wAA)) (vs:List Value):Prop:=vs=[.agg #[.int .i64 x.1.Bib,.int .i64 x.1.Place,.int .i64 x.1.Total],.agg #[.int .i64 x.2.Bib,.int .i64 x.2.Place,.int .i64 x.2.Total]]
def wIa (U:PHeap) (L_:List Res) (v:Value) (y:Int):Prop:=v=.int .i64 y/\L_=[]
def wAt (x:wAJ):List Value:=[.int .i64 x.Bib,.int .i64 x.Time]
def wMl (U:PHeap) (x:wAJ) (vs:List Value):Prop:=vs=[.agg #[.int .i64 x.Bib,.int .i64 x.Time]]
def wMm (U:PHeap) (L_:List Res) (v:Value) (y:Bool):Prop:=v=.bool y/\L_=[]
def wLs (U:PHeap) (x:(Int × Int)) (vs:List Value):Prop:=vs=[.int .i64 x.1,.int .i64 x.2]
def wLt (U:PHeap) (L_:List Res) (v:Value) (y:Int):Prop:=v=.int .i64 y/\L_=[]
def wBa (x:wBn):List Value:=[.int .i64 x.Bib,.int .i64 x.Time,.int .i64 x.Gate]
theorem Tryz.mixed:Tryz.prog.follows .mixedOrders=true:=by kernel_rfl
theorem wED:wDP Tryz.prog 28 [(0,1),(1,1),(2,1)]:=⟨_,Tryz.runUnderlying28,fun w=>by simp [Tryz.sizeOf3,Tryz.sizeOf25,Tryz.sizeOf26]⟩
theorem wKq:wDP Tryz.prog 35 [(0,1),(1,1)]:=⟨_,Tryz.runUnderlying35,fun w=>by simp [Tryz.sizeOf3]⟩
theorem wKr:wDP Tryz.prog 37 [(0,1),(1,1),(2,2)]:=⟨_,Tryz.runUnderlying37,fun w=>by simp [Tryz.sizeOf3,Tryz.sizeOf35]⟩
theorem wKs:wDP Tryz.prog 40 [(0,1),(1,1)]:=⟨_,Tryz.runUnderlying40,fun w=>by simp [Tryz.sizeOf3]⟩
theorem wJI:wDP Tryz.prog 46 [(0,1),(1,1),(2,1),(3,1),(4,1),(5,1)]:=⟨_,Tryz.runUnderlying46,fun w=>by simp [Tryz.sizeOf3,Tryz.sizeOf44]⟩
theorem wJJ:wDP Tryz.prog 52 [(0,1),(1,1),(2,1)]:=⟨_,Tryz.runUnderlying52,fun w=>by simp [Tryz.sizeOf3]⟩
theorem wKt:wDP Tryz.prog 53 [(0,1),(1,1)]:=⟨_,Tryz.runUnderlying53,fun w=>by simp [Tryz.sizeOf3]⟩
theorem wKu:wDP Tryz.prog 58 [(0,1),(1,1)]:=⟨_,Tryz.runUnderlying58,fun w=>by simp [Tryz.sizeOf3]⟩
theorem wKv:wDP Tryz.prog 60 [(0,1),(1,1),(2,1)]:=⟨_,Tryz.runUnderlying60,fun w=>by simp [Tryz.sizeOf3]⟩
theorem wKB:wDP Tryz.prog 126 [(0,1),(1,1),(2,1)]:=⟨_,Tryz.runUnderlying126,fun w=>by simp [Tryz.sizeOf22,Tryz.sizeOf3,Tryz.sizeOf124]⟩
theorem wKC:wDP Tryz.prog 210 [(0,3),(3,1),(4,1)]:=⟨_,Tryz.runUnderlying210,fun w=>by simp [Tryz.sizeOf28,Tryz.sizeOf207,Tryz.sizeOf208]⟩
theorem wEk:wDP Tryz.prog 263 [(0,1),(1,1)]:=⟨_,Tryz.runUnderlying263,fun w=>by simp [Tryz.sizeOf261,Tryz.sizeOf3]⟩
theorem wEl:wDP Tryz.prog 265 [(0,2),(2,1),(3,1),(4,1)]:=⟨_,Tryz.runUnderlying265,fun w=>by simp [Tryz.sizeOf263,Tryz.sizeOf3,Tryz.sizeOf184]⟩
theorem wEm:wDP Tryz.prog 275 [(0,1)]:=⟨_,Tryz.runUnderlying275,fun w=>by simp [Tryz.sizeOf32]⟩
theorem wIb:Tryz.prog.info? 3=some Tryz.t3:=by kernel_rfl
theorem wMn:Tryz.prog.info? 31=some Tryz.t31:=by kernel_rfl
theorem wMo:Tryz.prog.info? 38=some Tryz.t38:=by kernel_rfl
theorem wGy:Tryz.prog.info? 40=some Tryz.t40:=by kernel_rfl
theorem wGz:Tryz.prog.info? 46=some Tryz.t46:=by kernel_rfl
theorem wKD:Tryz.prog.info? 52=some Tryz.t52:=by kernel_rfl
theorem wMp:Tryz.prog.info? 53=some Tryz.t53:=by kernel_rfl
theorem wMq:Tryz.prog.info? 60=some Tryz.t60:=by kernel_rfl
theorem wIc:Tryz.prog.info? 265=some Tryz.t265:=by kernel_rfl
theorem wFr:KeyR Tryz.prog 3 wDv:=KeyR.ofInt (wDE Tryz.runUnderlying3)
theorem wLu:KeyR Tryz.prog 3 wEQ:=KeyR.ofInt (wDE Tryz.runUnderlying3)
theorem wKE:KeyR Tryz.prog 3 wER:=KeyR.ofInt (wDE Tryz.runUnderlying3)
end Go.Proofs.YtlmekamhphnmjaaGreat
