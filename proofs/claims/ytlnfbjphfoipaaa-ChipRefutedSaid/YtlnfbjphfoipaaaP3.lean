import Derived.Test.YtlnfbjphfoipaaaP0
import Derived.Test.YtlnfbjphfoipaaaP1
import Derived.Test.YtlnfbjphfoipaaaProg
import Derived.Test.YtlnfbjphfoipaaaP2
set_option linter.all false
namespace Go.Proofs.Ytlnfbjphfoipaaa
open Go.KL
def wAE (x:wAK):List Value:=[.int .i64 x.Lo,.int .i64 x.Hi]
def wIs:Rl (List Int) where
 sz:=1
 r:=fun φ x vs=>∃ (pA:Option Addr) (pc:Nat),vs=[.slice pA x.length pc]/\Sl φ 1 pA pc x.length (List.flatMap KL.encI x)
 mono:=by rintro φ φ' x vs ⟨pA,pc,rfl,h0⟩ hl;exact ⟨pA,pc,rfl,h0.le hl⟩
 len:=by rintro φ x vs ⟨_,_,rfl,_⟩;rfl
 one:=by rintro φ x vs ⟨_,_,rfl,h0⟩;rfl
def wAB (x:wAM):List Value:=[.int .i64 x.Offset.Lo,.int .i64 x.Offset.Hi,.int .i64 x.Error]
def wAA (x:wAI):List Value:=[.int .i64 x.Skier,.int .i64 x.Mat,.int .i64 x.Clock,.int .i64 x.Time]
def wMZ (φ:PHeap) (x:Int) (vs:List Value):Prop:=vs=[.int .i64 x]
def wMa (φ:PHeap) (L_:List Res) (v:Value) (y:Bool):Prop:=v=.bool y/\L_=[]
def wMb (φ:PHeap) (x:wAK) (vs:List Value):Prop:=vs=[.agg #[.int .i64 x.Lo,.int .i64 x.Hi]]
def wMc (φ:PHeap) (L_:List Res) (v:Value) (y:Bool):Prop:=v=.bool y/\L_=[]
def wMd (φ:PHeap) (x:wAM) (vs:List Value):Prop:=vs=[.agg #[.int .i64 x.Offset.Lo,.int .i64 x.Offset.Hi,.int .i64 x.Error]]
def wMe (φ:PHeap) (L_:List Res) (v:Value) (y:Bool):Prop:=v=.bool y/\L_=[]
def wJS (φ:PHeap) (x:wAI) (vs:List Value):Prop:=vs=[.agg #[.int .i64 x.Skier,.int .i64 x.Mat,.int .i64 x.Clock,.int .i64 x.Time]]
def wJT (φ:PHeap) (L_:List Res) (v:Value) (y:Bool):Prop:=v=.bool y/\L_=[]
def wAU (x:wAS):List Value:=[.int .i64 x.Skier,.int .i64 x.Mat]
def wBi (x:wAJ):List Value:=[.int .i64 x.skier,.int .i64 x.mat]
def wAP (x:wAF):List Value:=[.int .i64 x.Kind,.int .i64 x.Skier,.int .i64 x.Index,.bool x.Up]
def wKg (φ:PHeap) (x:wAF) (vs:List Value):Prop:=vs=[.agg #[.int .i64 x.Kind,.int .i64 x.Skier,.int .i64 x.Index,.bool x.Up]]
def wMf (φ:PHeap) (L_:List Res) (v:Value) (y:Bool):Prop:=v=.bool y/\L_=[]
def wBE (x:wAJ):Value:=.agg #[.int .i64 x.skier,.int .i64 x.mat]
def wBK (x:Int):Value:=.int .i64 x
def wAQ (x:wAV):List Value:=[.int .i64 x.step.Kind,.int .i64 x.step.Skier,.int .i64 x.step.Index,.bool x.step.Up,.int .i64 x.from_,.int .i64 x.to_,.int .i64 x.count]
def wKh (φ:PHeap) (x:(Int × wAI)) (vs:List Value):Prop:=vs=[.int .i64 x.1,.agg #[.int .i64 x.2.Skier,.int .i64 x.2.Mat,.int .i64 x.2.Clock,.int .i64 x.2.Time]]
def wKi (φ:PHeap) (L_:List Res) (v:Value) (y:Bool):Prop:=v=.bool y/\L_=[]
def wLd (φ:PHeap) (x:wAS) (vs:List Value):Prop:=vs=[.agg #[.int .i64 x.Skier,.int .i64 x.Mat]]
def wLe (φ:PHeap) (L_:List Res) (v:Value) (y:Bool):Prop:=v=.bool y/\L_=[]
theorem Try.mixed:Try.prog.follows .mixedOrders=true:=by kernel_rfl
theorem wIt:wDa Try.prog 28 [(0,1),(1,1),(2,1),(3,1)]:=⟨_,Try.runUnderlying28,fun w=>by simp [Try.sizeOf23,Try.sizeOf24,Try.sizeOf25,Try.sizeOf26]⟩
theorem wEc:wDa Try.prog 39 [(0,1),(1,1),(2,1),(3,1)]:=⟨_,Try.runUnderlying39,fun w=>by simp [Try.sizeOf3]⟩
theorem wCN:wDa Try.prog 41 [(0,1),(1,1)]:=⟨_,Try.runUnderlying41,fun w=>by simp [Try.sizeOf3]⟩
theorem wIu:wDa Try.prog 43 [(0,2),(2,1)]:=⟨_,Try.runUnderlying43,fun w=>by simp [Try.sizeOf41,Try.sizeOf3]⟩
theorem wEw:wDa Try.prog 45 [(0,1),(1,1)]:=⟨_,Try.runUnderlying45,fun w=>by simp [Try.sizeOf3]⟩
theorem wDS:wDa Try.prog 78 [(0,1),(1,1),(2,1),(3,1)]:=⟨_,Try.runUnderlying78,fun w=>by simp [Try.sizeOf74,Try.sizeOf3,Try.sizeOf4]⟩
theorem wKj:wDa Try.prog 94 [(0,1),(1,1),(2,1)]:=⟨_,Try.runUnderlying94,fun w=>by simp [Try.sizeOf22,Try.sizeOf3,Try.sizeOf92]⟩
theorem wBU:wDa Try.prog 104 [(0,1),(1,1)]:=⟨_,Try.runUnderlying104,fun w=>by simp [Try.sizeOf3]⟩
theorem wHq:wDa Try.prog 118 [(0,1),(1,1)]:=⟨_,Try.runUnderlying118,fun w=>by simp [Try.sizeOf23]⟩
theorem wFX:wDa Try.prog 124 [(0,4),(4,1),(5,1)]:=⟨_,Try.runUnderlying124,fun w=>by simp [Try.sizeOf28,Try.sizeOf121,Try.sizeOf122]⟩
theorem wJy:wDa Try.prog 130 [(0,4),(4,1),(5,1),(6,1)]:=⟨_,Try.runUnderlying130,fun w=>by simp [Try.sizeOf78,Try.sizeOf3]⟩
theorem wFY:wDa Try.prog 169 [(0,1),(1,1),(2,1)]:=⟨_,Try.runUnderlying169,fun w=>by simp [Try.sizeOf165,Try.sizeOf166,Try.sizeOf167]⟩
theorem wHr:Try.prog.info? 3=some Try.t3:=by kernel_rfl
theorem wLL:Try.prog.info? 23=some Try.t23:=by kernel_rfl
theorem wGA:Try.prog.info? 39=some Try.t39:=by kernel_rfl
theorem wJz:Try.prog.info? 41=some Try.t41:=by kernel_rfl
theorem wHs:Try.prog.info? 43=some Try.t43:=by kernel_rfl
theorem wMg:Try.prog.info? 45=some Try.t45:=by kernel_rfl
theorem wLM:Try.prog.info? 78=some Try.t78:=by kernel_rfl
theorem wIU:Try.prog.info? 130=some Try.t130:=by kernel_rfl
theorem eqS41 (d:Nat) (x y:wAK) (w:World):(Op.equalIn (d + 2) 41 (.agg (wAE x).toArray) (.agg (wAE y).toArray)).run Try.prog w=.ok (decide (x=y)) w:=by
 obtain ⟨x0,x1⟩:=x
 obtain ⟨y0,y1⟩:=y
 rw [run_equalIn_agg w (d + 1) 41 _ _ (wFp Try.runUnderlying41) (by kernel_rfl),wEY Try.runUnderlying41]
 by_cases h0:x0=y0 <;> by_cases h1:x1=y1 <;> simp [Op.eqFields,part,wAE,Result.andThen,Try.isAgg3,h0,run_equalIn_int _ (d + 0) 3 .i64 .i64 _ _ (wBp Try.runUnderlying3),h1]
theorem wKk:Try.prog.eqGuardType Try.prog.depth 41=false:=by kernel_rfl
theorem wKl:EqT Try.prog 41 wAE:=fun x y w=>by
 unfold Op.equal Op.maxDepth;exact eqS41 9998 x y w
theorem eqS45 (d:Nat) (x y:wAS) (w:World):(Op.equalIn (d + 2) 45 (.agg (wAU x).toArray) (.agg (wAU y).toArray)).run Try.prog w=.ok (decide (x=y)) w:=by
 obtain ⟨x0,x1⟩:=x
 obtain ⟨y0,y1⟩:=y
 rw [run_equalIn_agg w (d + 1) 45 _ _ (wFp Try.runUnderlying45) (by kernel_rfl),wEY Try.runUnderlying45]
 by_cases h0:x0=y0 <;> by_cases h1:x1=y1 <;> simp [Op.eqFields,part,wAU,Result.andThen,Try.isAgg3,h0,run_equalIn_int _ (d + 0) 3 .i64 .i64 _ _ (wBp Try.runUnderlying3),h1]
theorem wMh:Try.prog.eqGuardType Try.prog.depth 45=false:=by kernel_rfl
theorem wMi:EqT Try.prog 45 wAU:=fun x y w=>by
 unfold Op.equal Op.maxDepth;exact eqS45 9998 x y w
theorem wMj (d:Nat) (x y:wAJ) (w:World):(Op.equalIn (d + 2) 104 (.agg (wBi x).toArray) (.agg (wBi y).toArray)).run Try.prog w=.ok (decide (x=y)) w:=by
 obtain ⟨x0,x1⟩:=x
 obtain ⟨y0,y1⟩:=y
 rw [run_equalIn_agg w (d + 1) 104 _ _ (wFp Try.runUnderlying104) (by kernel_rfl),wEY Try.runUnderlying104]
 by_cases h0:x0=y0 <;> by_cases h1:x1=y1 <;> simp [Op.eqFields,part,wBi,Result.andThen,Try.isAgg3,h0,run_equalIn_int _ (d + 0) 3 .i64 .i64 _ _ (wBp Try.runUnderlying3),h1]
theorem wKA:Try.prog.eqGuardType Try.prog.depth 104=false:=by kernel_rfl
theorem wKB:EqT Try.prog 104 wBi:=fun x y w=>by
 unfold Op.equal Op.maxDepth;exact wMj 9998 x y w
theorem wCz:KeyR Try.prog 104 wBE:=Two.keyR (k:=.i64) ⟨wBp Try.runUnderlying104,rfl,rfl,by decide,rfl,rfl,by decide,wBp Try.runUnderlying3,Try.isAgg3,by kernel_rfl⟩ wBE (·.skier) (·.mat) (fun _=>rfl) (fun x y h1 h2=>by cases x;cases y;cases h1;cases h2;rfl)
end Go.Proofs.Ytlnfbjphfoipaaa
