import Derived.Test.YtadbejldcmkokaaGreatA0
import Derived.Test.YtadbejldcmkokaaGreatA1
import Derived.Test.YtadbejldcmkokaaGreatProg
import Derived.Test.YtadbejldcmkokaaGreatA4
import Derived.Test.YtadbejldcmkokaaGreatA5
set_option linter.all false
namespace Go.Proofs.YtadbejldcmkokaaGreat
open Go.KL
def wAP (x:wAI):List Value:=[.int .i64 x.Lo,.int .i64 x.Hi]
def wHx:Rl (List Int) where
 sz:=1
 r:=fun U x vs=>∃ (pA:Option Addr) (pc:Nat),vs=[.slice pA x.length pc]/\Sl U 1 pA pc x.length (List.flatMap KL.encI x)
 mono:=by rintro U U' x vs ⟨pA,pc,rfl,h0⟩ hl;exact ⟨pA,pc,rfl,h0.le hl⟩
 len:=by rintro U x vs ⟨_,_,rfl,_⟩;rfl
 one:=by rintro U x vs ⟨_,_,rfl,h0⟩;rfl
def wAB (x:wAK):List Value:=[.int .i64 x.Offset.Lo,.int .i64 x.Offset.Hi,.int .i64 x.Error]
def wAM (x:wAY):List Value:=[.int .i64 x.Skier,.int .i64 x.Mat,.int .i64 x.Clock,.int .i64 x.Time]
def wIa (U:PHeap) (x:Int) (vs:List Value):Prop:=vs=[.int .i64 x]
def wIb (U:PHeap) (L_:List Res) (v:Value) (y:Bool):Prop:=v=.bool y/\L_=[]
def wVi (U:PHeap) (x:wAI) (vs:List Value):Prop:=vs=[.agg #[.int .i64 x.Lo,.int .i64 x.Hi]]
def wVj (U:PHeap) (L_:List Res) (v:Value) (y:Bool):Prop:=v=.bool y/\L_=[]
def wVk (U:PHeap) (x:wAK) (vs:List Value):Prop:=vs=[.agg #[.int .i64 x.Offset.Lo,.int .i64 x.Offset.Hi,.int .i64 x.Error]]
def wVl (U:PHeap) (L_:List Res) (v:Value) (y:Bool):Prop:=v=.bool y/\L_=[]
def wTi (U:PHeap) (x:wAY) (vs:List Value):Prop:=vs=[.agg #[.int .i64 x.Skier,.int .i64 x.Mat,.int .i64 x.Clock,.int .i64 x.Time]]
def wTj (U:PHeap) (L_:List Res) (v:Value) (y:Bool):Prop:=v=.bool y/\L_=[]
def wEh (x:wAk):List Value:=[.int .i64 x.Skier,.int .i64 x.Mat]
def wIc (x:wAJ):List Value:=[.int .i64 x.skier,.int .i64 x.mat]
def wVm (U:PHeap) (x:wAN) (vs:List Value):Prop:=vs=[.agg #[.int .i64 x.Kind,.int .i64 x.Skier,.int .i64 x.Index,.bool x.Up]]
def wEK (x:wAJ):Value:=.agg #[.int .i64 x.skier,.int .i64 x.mat]
def wEV (x:Int):Value:=.int .i64 x
def wAe (x:wAm):List Value:=[.int .i64 x.step.Kind,.int .i64 x.step.Skier,.int .i64 x.step.Index,.bool x.step.Up,.int .i64 x.from_,.int .i64 x.to_,.int .i64 x.count]
def wTk (U:PHeap) (x:wAk) (vs:List Value):Prop:=vs=[.agg #[.int .i64 x.Skier,.int .i64 x.Mat]]
def wTl (U:PHeap) (L_:List Res) (v:Value) (y:Bool):Prop:=v=.bool y/\L_=[]
def wAO (x:wAQ):List Value:=[.int .i64 x.Bib,.int .i64 x.Time]
def wNd (U:PHeap) (x:wAQ) (vs:List Value):Prop:=vs=[.agg #[.int .i64 x.Bib,.int .i64 x.Time]]
def wNe (U:PHeap) (L_:List Res) (v:Value) (y:Bool):Prop:=v=.bool y/\L_=[]
def wAL (x:wAD):List Value:=[.int .i64 x.Number,.int .i64 x.Kind,.int .i64 x.Minute,.int .i64 x.Bib,.int .i64 x.Much,.int .i64 x.About]
def wRy (U:PHeap) (x:wAD) (vs:List Value):Prop:=vs=[.agg #[.int .i64 x.Number,.int .i64 x.Kind,.int .i64 x.Minute,.int .i64 x.Bib,.int .i64 x.Much,.int .i64 x.About]]
def wRz (U:PHeap) (L_:List Res) (v:Value) (y:Bool):Prop:=v=.bool y/\L_=[]
def wKC (x:Int):Value:=.int .i64 x
def wLB (x:Bool):Value:=.bool x
def wVn (U:PHeap) (x:(wAQ × wAQ)) (vs:List Value):Prop:=vs=[.agg #[.int .i64 x.1.Bib,.int .i64 x.1.Time],.agg #[.int .i64 x.2.Bib,.int .i64 x.2.Time]]
def wVo (U:PHeap) (L_:List Res) (v:Value) (y:Int):Prop:=v=.int .i64 y/\L_=[]
def wVp (U:PHeap) (x:(wAD × wAD)) (vs:List Value):Prop:=vs=[.agg #[.int .i64 x.1.Number,.int .i64 x.1.Kind,.int .i64 x.1.Minute,.int .i64 x.1.Bib,.int .i64 x.1.Much,.int .i64 x.1.About],.agg #[.int .i64 x.2.Number,.int .i64 x.2.Kind,.int .i64 x.2.Minute,.int .i64 x.2.Bib,.int .i64 x.2.Much,.int .i64 x.2.About]]
def wVq (U:PHeap) (L_:List Res) (v:Value) (y:Int):Prop:=v=.int .i64 y/\L_=[]
def wVr (U:PHeap) (x:(Int × wAD)) (vs:List Value):Prop:=vs=[.int .i64 x.1,.agg #[.int .i64 x.2.Number,.int .i64 x.2.Kind,.int .i64 x.2.Minute,.int .i64 x.2.Bib,.int .i64 x.2.Much,.int .i64 x.2.About]]
def wIw (x:Int):Value:=.int .i64 x
def wKD (x:wAD):Value:=.agg #[.int .i64 x.Number,.int .i64 x.Kind,.int .i64 x.Minute,.int .i64 x.Bib,.int .i64 x.Much,.int .i64 x.About]
def wMA (x:Int):Value:=.int .i64 x
def wMB (_:Unit):Value:=.slice none 0 0
def wAH (x:wAA):List Value:=[.int .i64 x.Bib,.int .i64 x.Place,.int .i64 x.Total]
def wQz (U:PHeap) (x:(wAA × wAA)) (vs:List Value):Prop:=vs=[.agg #[.int .i64 x.1.Bib,.int .i64 x.1.Place,.int .i64 x.1.Total],.agg #[.int .i64 x.2.Bib,.int .i64 x.2.Place,.int .i64 x.2.Total]]
def wKE (U:PHeap) (L_:List Res) (v:Value) (y:Int):Prop:=v=.int .i64 y/\L_=[]
def ar87 (U:PHeap) (x:wAA) (vs:List Value):Prop:=vs=[.agg #[.int .i64 x.Bib,.int .i64 x.Place,.int .i64 x.Total]]
def rr87 (U:PHeap) (L_:List Res) (v:Value) (y:Bool):Prop:=v=.bool y/\L_=[]
def wLC (U:PHeap) (x:List Int) (vs:List Value):Prop:=∃ (pA_0:Option Addr) (pc_0:Nat),vs=[.slice pA_0 x.length pc_0]/\Sl U 1 pA_0 pc_0 x.length (List.flatMap KL.encI x)
def wLD (U:PHeap) (L_:List Res) (v:Value) (y:Bool):Prop:=v=.bool y/\L_=[]
def wUg (U:PHeap) (x:(Int × Int)) (vs:List Value):Prop:=vs=[.int .i64 x.1,.int .i64 x.2]
def wUh (U:PHeap) (L_:List Res) (v:Value) (y:Int):Prop:=v=.int .i64 y/\L_=[]
theorem Tryz.mixed:Tryz.prog.follows .mixedOrders=true:=by kernel_rfl
theorem wKF:wDF Tryz.prog 37 [(0,1),(1,1),(2,1)]:=⟨_,Tryz.runUnderlying37,fun w=>by simp [Tryz.sizeOf3,Tryz.sizeOf34,Tryz.sizeOf35]⟩
theorem wRA:wDF Tryz.prog 39 [(0,1),(1,1)]:=⟨_,Tryz.runUnderlying39,fun w=>by simp [Tryz.sizeOf3]⟩
theorem wRB:wDF Tryz.prog 51 [(0,1),(1,1),(2,1),(3,1),(4,1)]:=⟨_,Tryz.runUnderlying51,fun w=>by simp [Tryz.sizeOf3,Tryz.sizeOf23,Tryz.sizeOf29]⟩
theorem wKG:wDF Tryz.prog 55 [(0,1),(1,1)]:=⟨_,Tryz.runUnderlying55,fun w=>by simp [Tryz.sizeOf3]⟩
theorem wRC:wDF Tryz.prog 62 [(0,2),(2,1)]:=⟨_,Tryz.runUnderlying62,fun w=>by simp [Tryz.sizeOf55,Tryz.sizeOf3]⟩
theorem wHy:wDF Tryz.prog 64 [(0,1),(1,1),(2,1),(3,1)]:=⟨_,Tryz.runUnderlying64,fun w=>by simp [Tryz.sizeOf3]⟩
theorem wRD:wDF Tryz.prog 67 [(0,1),(1,1),(2,1)]:=⟨_,Tryz.runUnderlying67,fun w=>by simp [Tryz.sizeOf22,Tryz.sizeOf3,Tryz.sizeOf65]⟩
theorem wMq:wDF Tryz.prog 86 [(0,1),(1,1),(2,1)]:=⟨_,Tryz.runUnderlying86,fun w=>by simp [Tryz.sizeOf3]⟩
theorem wRE:wDF Tryz.prog 89 [(0,5)]:=⟨_,Tryz.runUnderlying89,fun w=>by simp [Tryz.sizeOf51]⟩
theorem wLE:wDF Tryz.prog 101 [(0,1),(1,1)]:=⟨_,Tryz.runUnderlying101,fun w=>by simp [Tryz.sizeOf3]⟩
theorem wPa:wDF Tryz.prog 105 [(0,4),(4,1),(5,1)]:=⟨_,Tryz.runUnderlying105,fun w=>by simp [Tryz.sizeOf28,Tryz.sizeOf102,Tryz.sizeOf103]⟩
theorem wPb:wDF Tryz.prog 107 [(0,1),(1,1)]:=⟨_,Tryz.runUnderlying107,fun w=>by simp [Tryz.sizeOf23]⟩
theorem wEq:wDF Tryz.prog 111 [(0,1),(1,1)]:=⟨_,Tryz.runUnderlying111,fun w=>by simp [Tryz.sizeOf3]⟩
theorem wPc:wDF Tryz.prog 117 [(0,3),(3,1),(4,1)]:=⟨_,Tryz.runUnderlying117,fun w=>by simp [Tryz.sizeOf37,Tryz.sizeOf114,Tryz.sizeOf115]⟩
theorem wHM:wDF Tryz.prog 149 [(0,1),(1,1),(2,1),(3,1)]:=⟨_,Tryz.runUnderlying149,fun w=>by simp [Tryz.sizeOf147,Tryz.sizeOf3,Tryz.sizeOf4]⟩
theorem wPd:wDF Tryz.prog 151 [(0,4),(4,1),(5,1),(6,1)]:=⟨_,Tryz.runUnderlying151,fun w=>by simp [Tryz.sizeOf149,Tryz.sizeOf3]⟩
theorem wHN:wDF Tryz.prog 233 [(0,1),(1,1),(2,1)]:=⟨_,Tryz.runUnderlying233,fun w=>by simp [Tryz.sizeOf229,Tryz.sizeOf230,Tryz.sizeOf231]⟩
theorem wId:Tryz.prog.info? 3=some Tryz.t3:=by kernel_rfl
theorem wSA:Tryz.prog.info? 23=some Tryz.t23:=by kernel_rfl
theorem wSB:Tryz.prog.info? 39=some Tryz.t39:=by kernel_rfl
theorem wSC:Tryz.prog.info? 55=some Tryz.t55:=by kernel_rfl
theorem wMr:Tryz.prog.info? 62=some Tryz.t62:=by kernel_rfl
theorem wVs:Tryz.prog.info? 64=some Tryz.t64:=by kernel_rfl
theorem wPe:Tryz.prog.info? 86=some Tryz.t86:=by kernel_rfl
theorem wTm:Tryz.prog.info? 123=some Tryz.t123:=by kernel_rfl
theorem wTn:Tryz.prog.info? 151=some Tryz.t151:=by kernel_rfl
theorem wGl:KeyR Tryz.prog 111 wEK:=Two.keyR (k:=.i64) ⟨wDa Tryz.runUnderlying111,rfl,rfl,by decide,rfl,rfl,by decide,wDa Tryz.runUnderlying3,Tryz.isAgg3,by kernel_rfl⟩ wEK (·.skier) (·.mat) (fun _=>rfl) (fun x y h1 h2=>by cases x;cases y;cases h1;cases h2;rfl)
theorem wTo:KeyR Tryz.prog 3 wIw:=KeyR.ofInt (wDa Tryz.runUnderlying3)
theorem wPf:KeyR Tryz.prog 3 wKC:=KeyR.ofInt (wDa Tryz.runUnderlying3)
end Go.Proofs.YtadbejldcmkokaaGreat
