import Derived.Test.YtkedcbligiebkaaY0
import Derived.Test.YtkedcbligiebkaaProg
import Derived.Test.YtkedcbligiebkaaY2
set_option linter.all false
namespace Go.Proofs.Ytkedcbligiebkaa
open Go.KL
def wAb (x:wAI):List Value:=[.int .i64 x.Bib,.int .i64 x.Time]
def ar97 (U:PHeap) (x:wAI) (vs:List Value):Prop:=vs=[.agg #[.int .i64 x.Bib,.int .i64 x.Time]]
def rr97 (U:PHeap) (L_:List Res) (v:Value) (y:Bool):Prop:=v=.bool y/\L_=[]
def wIu (x:Int):Value:=.int .i64 x
def wJn (x:Bool):Value:=.bool x
def wKw (U:PHeap) (x:(Int × Int)) (vs:List Value):Prop:=vs=[.int .i64 x.1,.int .i64 x.2]
def wKx (U:PHeap) (L_:List Res) (v:Value) (y:Int):Prop:=v=.int .i64 y/\L_=[]
def wAy (x:wBF):List Value:=[.int .i64 x.Bib,.int .i64 x.Time,.int .i64 x.Gate]
def ar48 (U:PHeap) (x:Int) (vs:List Value):Prop:=vs=[.int .i64 x]
def rr48 (U:PHeap) (L_:List Res) (v:Value) (y:Bool):Prop:=v=.bool y/\L_=[]
def wAE (x:wAA):List Value:=[.int .i64 x.Lo,.int .i64 x.Hi]
def wKe (U:PHeap) (x:wAA) (vs:List Value):Prop:=vs=[.agg #[.int .i64 x.Lo,.int .i64 x.Hi]]
def wKf (U:PHeap) (L_:List Res) (v:Value) (y:Bool):Prop:=v=.bool y/\L_=[]
def wAP (x:wAF):List Value:=[.int .i64 x.Offset.Lo,.int .i64 x.Offset.Hi,.int .i64 x.Error]
def wLm (U:PHeap) (x:wAF) (vs:List Value):Prop:=vs=[.agg #[.int .i64 x.Offset.Lo,.int .i64 x.Offset.Hi,.int .i64 x.Error]]
def wLn (U:PHeap) (L_:List Res) (v:Value) (y:Bool):Prop:=v=.bool y/\L_=[]
def wAH (x:wAJ):List Value:=[.int .i64 x.Skier,.int .i64 x.Mat,.int .i64 x.Clock,.int .i64 x.Time]
def wKy (U:PHeap) (x:wAJ) (vs:List Value):Prop:=vs=[.agg #[.int .i64 x.Skier,.int .i64 x.Mat,.int .i64 x.Clock,.int .i64 x.Time]]
def wKz (U:PHeap) (L_:List Res) (v:Value) (y:Bool):Prop:=v=.bool y/\L_=[]
def wBv (x:wAW):List Value:=[.int .i64 x.Skier,.int .i64 x.Mat]
def wFM (x:wAB):List Value:=[.int .i64 x.skier,.int .i64 x.mat]
def wLo (U:PHeap) (x:wAK) (vs:List Value):Prop:=vs=[.agg #[.int .i64 x.Kind,.int .i64 x.Skier,.int .i64 x.Index,.bool x.Up]]
def wCX (x:wAB):Value:=.agg #[.int .i64 x.skier,.int .i64 x.mat]
def wCj (x:Int):Value:=.int .i64 x
def wAU (x:wAZ):List Value:=[.int .i64 x.step.Kind,.int .i64 x.step.Skier,.int .i64 x.step.Index,.bool x.step.Up,.int .i64 x.from_,.int .i64 x.to_,.int .i64 x.count]
def ar85 (U:PHeap) (x:wAW) (vs:List Value):Prop:=vs=[.agg #[.int .i64 x.Skier,.int .i64 x.Mat]]
def rr85 (U:PHeap) (L_:List Res) (v:Value) (y:Bool):Prop:=v=.bool y/\L_=[]
theorem Try.mixed:Try.prog.follows .mixedOrders=true:=by kernel_rfl
theorem wJo:wCM Try.prog 29 [(0,1),(1,1)]:=⟨_,Try.runUnderlying29,fun w=>by simp [Try.sizeOf3]⟩
theorem wJp:wCM Try.prog 35 [(0,1),(1,1)]:=⟨_,Try.runUnderlying35,fun w=>by simp [Try.sizeOf3]⟩
theorem wDe:wCM Try.prog 37 [(0,1),(1,1)]:=⟨_,Try.runUnderlying37,fun w=>by simp [Try.sizeOf3]⟩
theorem wHi:wCM Try.prog 39 [(0,2),(2,1)]:=⟨_,Try.runUnderlying39,fun w=>by simp [Try.sizeOf37,Try.sizeOf3]⟩
theorem wJq:wCM Try.prog 45 [(0,1),(1,1),(2,1),(3,1)]:=⟨_,Try.runUnderlying45,fun w=>by simp [Try.sizeOf41,Try.sizeOf42,Try.sizeOf40,Try.sizeOf43]⟩
theorem wJr:wCM Try.prog 47 [(0,1),(1,1),(2,1)]:=⟨_,Try.runUnderlying47,fun w=>by simp [Try.sizeOf3]⟩
theorem wJs:wCM Try.prog 50 [(0,1),(1,1),(2,1),(3,1)]:=⟨_,Try.runUnderlying50,fun w=>by simp [Try.sizeOf3]⟩
theorem wGE:wCM Try.prog 54 [(0,1),(1,1)]:=⟨_,Try.runUnderlying54,fun w=>by simp [Try.sizeOf3]⟩
theorem wJt:wCM Try.prog 61 [(0,1),(1,1),(2,1)]:=⟨_,Try.runUnderlying61,fun w=>by simp [Try.sizeOf22,Try.sizeOf3,Try.sizeOf59]⟩
theorem wBW:wCM Try.prog 71 [(0,1),(1,1)]:=⟨_,Try.runUnderlying71,fun w=>by simp [Try.sizeOf3]⟩
theorem wHj:wCM Try.prog 88 [(0,1),(1,1)]:=⟨_,Try.runUnderlying88,fun w=>by simp [Try.sizeOf41]⟩
theorem wFB:wCM Try.prog 94 [(0,4),(4,1),(5,1)]:=⟨_,Try.runUnderlying94,fun w=>by simp [Try.sizeOf45,Try.sizeOf91,Try.sizeOf92]⟩
theorem wEU:wCM Try.prog 106 [(0,1),(1,1),(2,1),(3,1)]:=⟨_,Try.runUnderlying106,fun w=>by simp [Try.sizeOf104,Try.sizeOf3,Try.sizeOf4]⟩
theorem wIv:wCM Try.prog 108 [(0,4),(4,1),(5,1),(6,1)]:=⟨_,Try.runUnderlying108,fun w=>by simp [Try.sizeOf106,Try.sizeOf3]⟩
theorem wEV:wCM Try.prog 133 [(0,1),(1,1),(2,1)]:=⟨_,Try.runUnderlying133,fun w=>by simp [Try.sizeOf129,Try.sizeOf130,Try.sizeOf131]⟩
theorem wIw:Try.prog.info? 3=some Try.t3:=by kernel_rfl
theorem wLp:Try.prog.info? 29=some Try.t29:=by kernel_rfl
theorem wHk:Try.prog.info? 37=some Try.t37:=by kernel_rfl
theorem wLq:Try.prog.info? 47=some Try.t47:=by kernel_rfl
theorem wLr:Try.prog.info? 50=some Try.t50:=by kernel_rfl
theorem wHN:Try.prog.info? 108=some Try.t108:=by kernel_rfl
theorem eqS37 (d:Nat) (x y:wAA) (w:World):(Op.equalIn (d + 2) 37 (.agg (wAE x).toArray) (.agg (wAE y).toArray)).run Try.prog w=.ok (decide (x=y)) w:=by
 obtain ⟨x0,x1⟩:=x
 obtain ⟨y0,y1⟩:=y
 rw [run_equalIn_agg w (d + 1) 37 _ _ (wIK Try.runUnderlying37) (by kernel_rfl),wFL Try.runUnderlying37]
 by_cases h0:x0=y0 <;> by_cases h1:x1=y1 <;> simp [Op.eqFields,part,wAE,Result.andThen,Try.isAgg3,h0,run_equalIn_int _ (d + 0) 3 .i64 .i64 _ _ (wBY Try.runUnderlying3),h1]
theorem eqG37:Try.prog.eqGuardType Try.prog.depth 37=false:=by kernel_rfl
theorem eqT37:EqT Try.prog 37 wAE:=fun x y w=>by
 unfold Op.equal Op.maxDepth;exact eqS37 9998 x y w
theorem wDS:KeyR Try.prog 71 wCX:=Two.keyR (k:=.i64) ⟨wBY Try.runUnderlying71,rfl,rfl,by decide,rfl,rfl,by decide,wBY Try.runUnderlying3,Try.isAgg3,by kernel_rfl⟩ wCX (·.skier) (·.mat) (fun _=>rfl) (fun x y h1 h2=>by cases x;cases y;cases h1;cases h2;rfl)
theorem wIx:KeyR Try.prog 3 wIu:=KeyR.ofInt (wBY Try.runUnderlying3)
end Go.Proofs.Ytkedcbligiebkaa
