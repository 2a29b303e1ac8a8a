import Derived.Test.YtlkkhhcfemmmdaaGreatA0
import Derived.Test.YtlkkhhcfemmmdaaGreatA1
import Derived.Test.YtlkkhhcfemmmdaaGreatProg
import Derived.Test.YtlkkhhcfemmmdaaGreatA4
import Derived.Test.YtlkkhhcfemmmdaaGreatA5
set_option linter.all false
open List renaming flatMap->nA
namespace Go.Proofs.YtlkkhhcfemmmdaaGreat
open Go.KL
def wAD (x:wAH):List Value:=[.int .i64 x.Bib,.int .i64 x.Time]
def wAB (x:wAA):List Value:=[.int .i64 x.Number,.int .i64 x.Kind,.int .i64 x.Minute,.int .i64 x.Bib,.int .i64 x.Much,.int .i64 x.About]
def wNc (U:PHeap) (x:wAH) (vs:List Value):Prop:=vs=[.agg #[.int .i64 x.Bib,.int .i64 x.Time]]
def wNd (U:PHeap) (L_:List Res) (v:Value) (y:Bool):Prop:=v=.bool y/\L_=[]
def wRV (U:PHeap) (x:wAA) (vs:List Value):Prop:=vs=[.agg #[.int .i64 x.Number,.int .i64 x.Kind,.int .i64 x.Minute,.int .i64 x.Bib,.int .i64 x.Much,.int .i64 x.About]]
def wRW (U:PHeap) (L_:List Res) (v:Value) (y:Bool):Prop:=v=.bool y/\L_=[]
def wDX (x:Int):Value:=.int .i64 x
def wDj (x:Bool):Value:=.bool x
def wUq (U:PHeap) (x:(wAH × wAH)) (vs:List Value):Prop:=vs=[.agg #[.int .i64 x.1.Bib,.int .i64 x.1.Time],.agg #[.int .i64 x.2.Bib,.int .i64 x.2.Time]]
def wUr (U:PHeap) (L_:List Res) (v:Value) (y:Int):Prop:=v=.int .i64 y/\L_=[]
def wUs (U:PHeap) (x:(wAA × wAA)) (vs:List Value):Prop:=vs=[.agg #[.int .i64 x.1.Number,.int .i64 x.1.Kind,.int .i64 x.1.Minute,.int .i64 x.1.Bib,.int .i64 x.1.Much,.int .i64 x.1.About],.agg #[.int .i64 x.2.Number,.int .i64 x.2.Kind,.int .i64 x.2.Minute,.int .i64 x.2.Bib,.int .i64 x.2.Much,.int .i64 x.2.About]]
def wUt (U:PHeap) (L_:List Res) (v:Value) (y:Int):Prop:=v=.int .i64 y/\L_=[]
def wUu (U:PHeap) (x:(Int × wAA)) (vs:List Value):Prop:=vs=[.int .i64 x.1,.agg #[.int .i64 x.2.Number,.int .i64 x.2.Kind,.int .i64 x.2.Minute,.int .i64 x.2.Bib,.int .i64 x.2.Much,.int .i64 x.2.About]]
def wFk (x:Int):Value:=.int .i64 x
def wFy (x:wAA):Value:=.agg #[.int .i64 x.Number,.int .i64 x.Kind,.int .i64 x.Minute,.int .i64 x.Bib,.int .i64 x.Much,.int .i64 x.About]
def wCu (x:Int):Value:=.int .i64 x
def wTB (U:PHeap) (x:Int) (vs:List Value):Prop:=vs=[.int .i64 x]
def wTC (U:PHeap) (L_:List Res) (v:Value) (y:Bool):Prop:=v=.bool y/\L_=[]
def wAG (x:wAC):List Value:=[.int .i64 x.Bib,.int .i64 x.Place,.int .i64 x.Total]
def wQW (U:PHeap) (x:(wAC × wAC)) (vs:List Value):Prop:=vs=[.agg #[.int .i64 x.1.Bib,.int .i64 x.1.Place,.int .i64 x.1.Total],.agg #[.int .i64 x.2.Bib,.int .i64 x.2.Place,.int .i64 x.2.Total]]
def wQX (U:PHeap) (L_:List Res) (v:Value) (y:Int):Prop:=v=.int .i64 y/\L_=[]
def ar85 (U:PHeap) (x:wAC) (vs:List Value):Prop:=vs=[.agg #[.int .i64 x.Bib,.int .i64 x.Place,.int .i64 x.Total]]
def rr85 (U:PHeap) (L_:List Res) (v:Value) (y:Bool):Prop:=v=.bool y/\L_=[]
def wEH:Rl (List Int) where
 sz:=1
 r:=fun U x vs=>∃ (pA:Option Addr) (pc:Nat),vs=[.slice pA x.length pc]/\Sl U 1 pA pc x.length (nA KL.encI x)
 mono:=by rintro U U' x vs ⟨pA,pc,rfl,h0⟩ hl;exact ⟨pA,pc,rfl,h0.le hl⟩
 len:=by rintro U x vs ⟨_,_,rfl,_⟩;rfl
 one:=by rintro U x vs ⟨_,_,rfl,h0⟩;rfl
def wKw (U:PHeap) (x:List Int) (vs:List Value):Prop:=∃ (pA_0:Option Addr) (pc_0:Nat),vs=[.slice pA_0 x.length pc_0]/\Sl U 1 pA_0 pc_0 x.length (nA KL.encI x)
def wKx (U:PHeap) (L_:List Res) (v:Value) (y:Bool):Prop:=v=.bool y/\L_=[]
def wQY (U:PHeap) (x:Int) (vs:List Value):Prop:=vs=[.int .i64 x]
def wQZ (U:PHeap) (L_:List Res) (v:Value) (y:Bool):Prop:=v=.bool y/\L_=[]
def wTp (U:PHeap) (x:(Int × Int)) (vs:List Value):Prop:=vs=[.int .i64 x.1,.int .i64 x.2]
def wTq (U:PHeap) (L_:List Res) (v:Value) (y:Int):Prop:=v=.int .i64 y/\L_=[]
def wUv (U:PHeap) (x:(Int × wCB)) (vs:List Value):Prop:=vs=[.int .i64 x.1,.agg (([.int .i64 x.2.total]:List Go.Value) ++ (nA KL.encI x.2.places.l)).toArray]
def wAJ (x:wAN):List Value:=[.int .i64 x.Skier,.int .i64 x.Rank,.int .i64 x.Points,.int .i64 x.Wins]
def ar97 (U:PHeap) (x:(wAN × wAN)) (vs:List Value):Prop:=vs=[.agg #[.int .i64 x.1.Skier,.int .i64 x.1.Rank,.int .i64 x.1.Points,.int .i64 x.1.Wins],.agg #[.int .i64 x.2.Skier,.int .i64 x.2.Rank,.int .i64 x.2.Points,.int .i64 x.2.Wins]]
def rr97 (U:PHeap) (L_:List Res) (v:Value) (y:Int):Prop:=v=.int .i64 y/\L_=[]
def ar98 (U:PHeap) (x:(wAQ × Int)) (vs:List Value):Prop:=∃ (pA_0_0_3:Option Addr) (pc_0_0_3:Nat) (pA_0_0_4:Option Addr) (pc_0_0_4:Nat),vs=[.agg #[.int .i64 x.1.Cup.Skiers,.int .i64 x.1.Cup.Races,.int .i64 x.1.Cup.Best,.slice pA_0_0_3 x.1.Cup.Points.length pc_0_0_3,.slice pA_0_0_4 x.1.Cup.Done.length pc_0_0_4],.int .i64 x.2]/\Sl U 1 pA_0_0_3 pc_0_0_3 x.1.Cup.Points.length (nA KL.encI x.1.Cup.Points)/\SlR U wEH pA_0_0_4 pc_0_0_4 x.1.Cup.Done
def rr98 (U:PHeap) (L_:List Res) (v:Value) (y:Bool):Prop:=v=.bool y/\L_=[]
def wUw:Rl wAI where
 sz:=3
 r:=fun U x vs=>∃ (pA_1:Option Addr) (pc_1:Nat) (pA_2:Option Addr) (pc_2:Nat),vs=[.int .i64 x.Deadline,.slice pA_1 x.Skiers.length pc_1,.slice pA_2 x.Decisions.length pc_2]/\Sl U 2 pA_1 pc_1 x.Skiers.length (nA wAD x.Skiers)/\Sl U 6 pA_2 pc_2 x.Decisions.length (nA wAB x.Decisions)
 mono:=by rintro U U' x vs ⟨pA_1,pc_1,pA_2,pc_2,rfl,h0,h1⟩ hl;exact ⟨pA_1,pc_1,pA_2,pc_2,rfl,h0.le hl,h1.le hl⟩
 len:=by rintro U x vs ⟨_,_,_,_,rfl,_,_⟩;rfl
 one:=by rintro U x vs ⟨_,_,_,_,rfl,h0,h1⟩;rfl
theorem Tryz.mixed:Tryz.prog.follows .mixedOrders=true:=by kernel_rfl
theorem wII:wEo Tryz.prog 29 [(0,1),(1,1),(2,1),(3,1),(4,1)]:=⟨_,Tryz.runUnderlying29,fun w=>by simp [Tryz.sizeOf3,Tryz.sizeOf26,Tryz.sizeOf27]⟩
theorem wIJ:wEo Tryz.prog 33 [(0,1),(1,1),(2,1)]:=⟨_,Tryz.runUnderlying33,fun w=>by simp [Tryz.sizeOf3,Tryz.sizeOf30,Tryz.sizeOf31]⟩
theorem wMm:wEo Tryz.prog 37 [(0,1),(1,1)]:=⟨_,Tryz.runUnderlying37,fun w=>by simp [Tryz.sizeOf3]⟩
theorem wJy:wEo Tryz.prog 42 [(0,1),(1,1),(2,1),(3,1),(4,1),(5,1)]:=⟨_,Tryz.runUnderlying42,fun w=>by simp [Tryz.sizeOf3,Tryz.sizeOf40]⟩
theorem wQa:wEo Tryz.prog 59 [(0,1),(1,1),(2,1),(3,1)]:=⟨_,Tryz.runUnderlying59,fun w=>by simp [Tryz.sizeOf3]⟩
theorem wQb:wEo Tryz.prog 68 [(0,1),(1,1),(2,1)]:=⟨_,Tryz.runUnderlying68,fun w=>by simp [Tryz.sizeOf22,Tryz.sizeOf3,Tryz.sizeOf66]⟩
theorem wMn:wEo Tryz.prog 84 [(0,1),(1,1),(2,1)]:=⟨_,Tryz.runUnderlying84,fun w=>by simp [Tryz.sizeOf3]⟩
theorem wMo:wEo Tryz.prog 87 [(0,5)]:=⟨_,Tryz.runUnderlying87,fun w=>by simp [Tryz.sizeOf29]⟩
theorem wKy:wEo Tryz.prog 100 [(0,1)]:=⟨_,Tryz.runUnderlying100,fun w=>by simp [Tryz.sizeOf98]⟩
theorem wPP:wEo Tryz.prog 114 [(0,3),(3,1),(4,1)]:=⟨_,Tryz.runUnderlying114,fun w=>by simp [Tryz.sizeOf33,Tryz.sizeOf111,Tryz.sizeOf112]⟩
theorem wGN:wEo Tryz.prog 152 [(0,1)]:=⟨_,Tryz.runUnderlying152,fun w=>by simp [Tryz.sizeOf25]⟩
theorem wJz:Tryz.prog.info? 3=some Tryz.t3:=by kernel_rfl
theorem wPQ:Tryz.prog.info? 26=some Tryz.t26:=by kernel_rfl
theorem wKz:Tryz.prog.info? 37=some Tryz.t37:=by kernel_rfl
theorem wLA:Tryz.prog.info? 42=some Tryz.t42:=by kernel_rfl
theorem wUx:Tryz.prog.info? 59=some Tryz.t59:=by kernel_rfl
theorem wPR:Tryz.prog.info? 84=some Tryz.t84:=by kernel_rfl
theorem eqS59 (d:Nat) (x y:wAN) (w:World):(Op.equalIn (d + 2) 59 (.agg (wAJ x).toArray) (.agg (wAJ y).toArray)).run Tryz.prog w=.ok (decide (x=y)) w:=by
 obtain ⟨x0,x1,x2,x3⟩:=x
 obtain ⟨y0,y1,y2,y3⟩:=y
 rw [run_equalIn_agg w (d + 1) 59 _ _ (wJP Tryz.runUnderlying59) (by kernel_rfl),wGn Tryz.runUnderlying59]
 by_cases h0:x0=y0 <;> by_cases h1:x1=y1 <;> by_cases h2:x2=y2 <;> by_cases h3:x3=y3 <;> simp [Op.eqFields,part,wAJ,Result.andThen,Tryz.isAgg3,h0,run_equalIn_int _ (d + 0) 3 .i64 .i64 _ _ (wDO Tryz.runUnderlying3),h1,h2,h3]
theorem eqG59:Tryz.prog.eqGuardType Tryz.prog.depth 59=false:=by kernel_rfl
theorem eqT59:EqT Tryz.prog 59 wAJ:=fun x y w=>by
 unfold Op.equal Op.maxDepth;exact eqS59 9998 x y w
theorem eqG92:Tryz.prog.eqGuardType Tryz.prog.depth 92=false:=by kernel_rfl
theorem eqT92:EqT Tryz.prog 92 (fun p:Arr Int 61=>nA KL.encI p.l):=fun x y w=>by
 unfold Op.equal Op.maxDepth;exact wGI w 9998 92 3 61 (wDO Tryz.runUnderlying92) (wDO Tryz.runUnderlying3) Tryz.sizeOf3 x y
theorem eqG94:Tryz.prog.eqGuardType Tryz.prog.depth 94=false:=by kernel_rfl
theorem eqT94:EqT Tryz.prog 94 (fun p:wCB=>([.int .i64 p.total]:List Go.Value) ++ nA KL.encI p.places.l):=fun x y w=>by
 have h:=wNK w (fun p=>p.total) (fun p=>p.places) (fun x y h1 h2=>by cases x;cases y;simp_all) Tryz.runUnderlying94 (by kernel_rfl) rfl (by decide) (by decide) rfl rfl rfl rfl (wDO Tryz.runUnderlying3) (wDO Tryz.runUnderlying92) (wDO Tryz.runUnderlying3) Tryz.sizeOf3 Tryz.sizeOf92 9997 x y
 unfold Op.equal Op.maxDepth;exact h
theorem wTD:KeyR Tryz.prog 3 wFk:=KeyR.ofInt (wDO Tryz.runUnderlying3)
theorem wKA:KeyR Tryz.prog 3 wCu:=KeyR.ofInt (wDO Tryz.runUnderlying3)
theorem wKB:KeyR Tryz.prog 3 wDX:=KeyR.ofInt (wDO Tryz.runUnderlying3)
end Go.Proofs.YtlkkhhcfemmmdaaGreat
