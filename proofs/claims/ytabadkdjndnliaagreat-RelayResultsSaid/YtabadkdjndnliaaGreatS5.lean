import Derived.Shelf.Sort.Plain
import Derived.Shelf.Slices.In.SortNone
import Derived.Shelf.SlSortCmp.NoneTotal
import Derived.Shelf.Slices.CompactI
import Derived.Ground.Names2Prog
import Derived.Ground.SlgnProg
import Derived.Ground.SlsfProg
import Derived.Test.YtabadkdjndnliaaGreatProg
set_option linter.all false
open Go.Value renaming int->nA
namespace Go.Proofs
open Go.Shelf
def Tryz.lays189_ren:Go.Shelf.Ren:=⟨fun | 189=>264 | 125=>176 | 257=>324 | 128=>261 | 129=>262 | 294=>374 | 295=>375 | 296=>376 | 297=>377 | 298=>378 | 299=>379 | 216=>380 | 300=>381 | 301=>382 | 328=>415 | 329=>319 | 330=>320 | 331=>416 | 332=>417 | 215=>177 | 343=>442 | n=>n,fun | 28=>22 | 3=>3 | 46=>330 | 0=>0 | 51=>232 | 53=>403 | 4=>4 | 183=>396 | 182=>395 | 131=>247 | 5=>5 | 9=>9 | 218=>451 | 222=>257 | 228=>485 | 229=>486 | n=>n,fun | n=>n⟩
theorem Tryz.lays189:Go.Proofs.Lays.n189 Tryz.prog Tryz.lays189_ren:={
 mixed:=by kernel_rfl
 f125:=Tryz.func176.trans (congrArg some (by kernel_rfl))
 f128:=Tryz.func261.trans (congrArg some (by kernel_rfl))
 f129:=Tryz.func262.trans (congrArg some (by kernel_rfl))
 f189:=Tryz.func264.trans (congrArg some (by kernel_rfl))
 f215:=Tryz.func177.trans (congrArg some (by kernel_rfl))
 f216:=Tryz.func380.trans (congrArg some (by kernel_rfl))
 f257:=Tryz.func324.trans (congrArg some (by kernel_rfl))
 f294:=Tryz.func374.trans (congrArg some (by kernel_rfl))
 f295:=Tryz.func375.trans (congrArg some (by kernel_rfl))
 f296:=Tryz.func376.trans (congrArg some (by kernel_rfl))
 f297:=Tryz.func377.trans (congrArg some (by kernel_rfl))
 f298:=Tryz.func378.trans (congrArg some (by kernel_rfl))
 f299:=Tryz.func379.trans (congrArg some (by kernel_rfl))
 f300:=Tryz.func381.trans (congrArg some (by kernel_rfl))
 f301:=Tryz.func382.trans (congrArg some (by kernel_rfl))
 f328:=Tryz.func415.trans (congrArg some (by kernel_rfl))
 f329:=Tryz.func319.trans (congrArg some (by kernel_rfl))
 f330:=Tryz.func320.trans (congrArg some (by kernel_rfl))
 f331:=Tryz.func416.trans (congrArg some (by kernel_rfl))
 f332:=Tryz.func417.trans (congrArg some (by kernel_rfl))
 f343:=Tryz.func442.trans (congrArg some (by kernel_rfl))
 t0:=Tryz.underlying0
 a0:=Tryz.isAgg0
 z0:=Tryz.sizeOf0
 v0:=Tryz.zeroValue0
 t3:=Tryz.underlying3
 a3:=Tryz.isAgg3
 z3:=Tryz.sizeOf3
 v3:=Tryz.zeroValue3
 t4:=Tryz.underlying4
 a4:=Tryz.isAgg4
 z4:=Tryz.sizeOf4
 v4:=Tryz.zeroValue4
 t5:=Tryz.underlying5
 a5:=Tryz.isAgg5
 z5:=Tryz.sizeOf5
 v5:=Tryz.zeroValue5
 t9:=Tryz.underlying9
 a9:=Tryz.isAgg9
 z9:=Tryz.sizeOf9
 v9:=Tryz.zeroValue9
 t28:=Tryz.underlying22
 a28:=Tryz.isAgg22
 z28:=Tryz.sizeOf22
 v28:=Tryz.zeroValue22
 t46:=Tryz.underlying330
 a46:=Tryz.isAgg330
 z46:=Tryz.sizeOf330
 v46:=Tryz.zeroValue330
 t51:=Tryz.underlying232
 a51:=Tryz.isAgg232
 z51:=Tryz.sizeOf232
 v51:=Tryz.zeroValue232
 t53:=Tryz.underlying403
 a53:=Tryz.isAgg403
 z53:=Tryz.sizeOf403
 v53:=Tryz.zeroValue403
 t131:=Tryz.underlying247
 a131:=Tryz.isAgg247
 z131:=Tryz.sizeOf247
 v131:=Tryz.zeroValue247
 t182:=Tryz.underlying395
 a182:=Tryz.isAgg395
 z182:=Tryz.sizeOf395
 v182:=Tryz.zeroValue395
 t183:=Tryz.underlying396
 a183:=Tryz.isAgg396
 z183:=Tryz.sizeOf396
 v183:=Tryz.zeroValue396
 t218:=Tryz.underlying451
 a218:=Tryz.isAgg451
 z218:=Tryz.sizeOf451
 v218:=Tryz.zeroValue451
 t222:=Tryz.underlying257
 a222:=Tryz.isAgg257
 z222:=Tryz.sizeOf257
 v222:=Tryz.zeroValue257
 t228:=Tryz.underlying485
 a228:=Tryz.isAgg485
 z228:=Tryz.sizeOf485
 v228:=Tryz.zeroValue485
 t229:=Tryz.underlying486
 a229:=Tryz.isAgg486
 z229:=Tryz.sizeOf486
 v229:=Tryz.zeroValue486 }
open Go.Sort Go.RowKit in
theorem Tryz.slices_Sort_int (blk off cap:Nat) (zs:List Int) (w:World) (hH:Holds (nA .i64) w blk off zs.toArray) (hblk:blk < w.heap.size) (hsz:zs.length < 4611686018427387904) :
  Calls Tryz.prog 264 #[.slice (some ⟨blk,off,none⟩) zs.length cap] w fun e w' =>
   e=.returned (.tuple #[])/\∃ n os,w'=grow (putRow (nA .i64) (Sort.ahead w n) blk off (zs.mergeSort fun x y=>decide (x <= y)).toArray) os:=Any.slices_Sort_int Tryz.lays189 blk off cap zs w hH hblk hsz
def Tryz.laysNm220_ren:Go.Shelf.Ren:=⟨fun | 20=>266 | n=>n,fun | 22=>22 | 3=>3 | 4=>4 | 0=>0 | n=>n,fun | n=>n⟩
theorem Tryz.laysNm220:Go.Proofs.Lays2.n20 Tryz.prog Tryz.laysNm220_ren:={
 mixed:=by kernel_rfl
 f20:=Tryz.func266.trans (congrArg some (by kernel_rfl))
 t0:=Tryz.underlying0
 a0:=Tryz.isAgg0
 z0:=Tryz.sizeOf0
 v0:=Tryz.zeroValue0
 t3:=Tryz.underlying3
 a3:=Tryz.isAgg3
 z3:=Tryz.sizeOf3
 v3:=Tryz.zeroValue3
 t4:=Tryz.underlying4
 a4:=Tryz.isAgg4
 z4:=Tryz.sizeOf4
 v4:=Tryz.zeroValue4
 t22:=Tryz.underlying22
 a22:=Tryz.isAgg22
 z22:=Tryz.sizeOf22
 v22:=Tryz.zeroValue22
 i3:=by kernel_rfl }
open Go.RowKit Go.Lib Go.Sort in
theorem Tryz.slices_Compact_int (blk off cap:Nat) (zs:List Int) (w:World) (hH:Holds (nA .i64) w blk off zs.toArray) (hsz:zs.length <= 9223372036854775807) (hcap:zs.length <= cap) :
  Calls Tryz.prog 266 #[.slice (some ⟨blk,off,none⟩) zs.length cap] w fun e w'=>e=.returned (.slice (some ⟨blk,off,none⟩) (Lib.compact zs).length cap)/\∃ q,w'=putRow (nA .i64) (Sort.ahead w q) blk off (Lib.compact zs ++ List.replicate (zs.length - (Lib.compact zs).length) 0).toArray:=Any.slices_Compact_int Tryz.laysNm220 blk off cap zs w hH hsz hcap
open Go.RowKit Go.Lib Go.Sort in
theorem Tryz.slices_Compact_int_empty (a:Option Addr) (cap:Nat) (w:World) :
  Calls Tryz.prog 266 #[.slice a 0 cap] w fun e w'=>e=.returned (.slice a 0 cap)/\w'=w:=Any.slices_Compact_int_empty Tryz.laysNm220 a cap w
open Go.RowKit Go.Sort in
theorem Tryz.slices_Sort_int_none (p:Option Addr) (cap:Nat) (w:World) :
  Calls Tryz.prog 264 #[.slice p 0 cap] w fun e w'=>e=.returned (.tuple #[])/\w'=w:=Any.slices_Sort_int_none Tryz.lays189 p cap w
def Tryz.laysSlF06_f94_ren:Go.Shelf.Ren:=⟨fun | 6=>94 | 15=>176 | 14=>175 | 28=>261 | 29=>262 | 20=>253 | 21=>254 | 22=>255 | 23=>256 | 24=>257 | 25=>258 | 26=>259 | 27=>260 | 46=>318 | 47=>319 | 48=>320 | 49=>321 | 50=>322 | 57=>373 | n=>n,fun | 22=>51 | 24=>59 | 25=>226 | 3=>3 | 39=>330 | 0=>0 | 53=>232 | 55=>403 | 4=>4 | 46=>396 | 45=>395 | 50=>247 | 5=>5 | 9=>9 | 66=>451 | 70=>257 | 76=>485 | 77=>486 | n=>n,fun | n=>n⟩
theorem Tryz.laysSlF06_f94:Go.Proofs.SlLaysF0.n6 Tryz.prog Tryz.laysSlF06_f94_ren:={
 mixed:=by kernel_rfl
 f6:=⟨Tryz.f94.name,by decide,Tryz.func94.trans (congrArg some (by kernel_rfl))⟩
 f14:=⟨Tryz.f175.name,by decide,Tryz.func175.trans (congrArg some (by kernel_rfl))⟩
 f15:=Tryz.func176.trans (congrArg some (by kernel_rfl))
 f20:=⟨Tryz.f253.name,by decide,Tryz.func253.trans (congrArg some (by kernel_rfl))⟩
 f21:=⟨Tryz.f254.name,by decide,Tryz.func254.trans (congrArg some (by kernel_rfl))⟩
 f22:=⟨Tryz.f255.name,by decide,Tryz.func255.trans (congrArg some (by kernel_rfl))⟩
 f23:=⟨Tryz.f256.name,by decide,Tryz.func256.trans (congrArg some (by kernel_rfl))⟩
 f24:=⟨Tryz.f257.name,by decide,Tryz.func257.trans (congrArg some (by kernel_rfl))⟩
 f25:=⟨Tryz.f258.name,by decide,Tryz.func258.trans (congrArg some (by kernel_rfl))⟩
 f26:=⟨Tryz.f259.name,by decide,Tryz.func259.trans (congrArg some (by kernel_rfl))⟩
 f27:=⟨Tryz.f260.name,by decide,Tryz.func260.trans (congrArg some (by kernel_rfl))⟩
 f28:=Tryz.func261.trans (congrArg some (by kernel_rfl))
 f29:=Tryz.func262.trans (congrArg some (by kernel_rfl))
 f46:=⟨Tryz.f318.name,by decide,Tryz.func318.trans (congrArg some (by kernel_rfl))⟩
 f47:=Tryz.func319.trans (congrArg some (by kernel_rfl))
 f48:=Tryz.func320.trans (congrArg some (by kernel_rfl))
 f49:=⟨Tryz.f321.name,by decide,Tryz.func321.trans (congrArg some (by kernel_rfl))⟩
 f50:=⟨Tryz.f322.name,by decide,Tryz.func322.trans (congrArg some (by kernel_rfl))⟩
 f57:=⟨Tryz.f373.name,by decide,Tryz.func373.trans (congrArg some (by kernel_rfl))⟩
 t0:=Tryz.underlying0
 a0:=Tryz.isAgg0
 z0:=Tryz.sizeOf0
 v0:=Tryz.zeroValue0
 t3:=Tryz.underlying3
 a3:=Tryz.isAgg3
 z3:=Tryz.sizeOf3
 v3:=Tryz.zeroValue3
 t4:=Tryz.underlying4
 a4:=Tryz.isAgg4
 z4:=Tryz.sizeOf4
 v4:=Tryz.zeroValue4
 t5:=Tryz.underlying5
 a5:=Tryz.isAgg5
 z5:=Tryz.sizeOf5
 v5:=Tryz.zeroValue5
 t9:=Tryz.underlying9
 a9:=Tryz.isAgg9
 z9:=Tryz.sizeOf9
 v9:=Tryz.zeroValue9
 t22:=Tryz.underlying51
 a22:=Tryz.isAgg51
 z22:=Tryz.sizeOf51
 v22:=Tryz.zeroValue51
 t25:=Tryz.underlying226
 a25:=Tryz.isAgg226
 z25:=Tryz.sizeOf226
 v25:=Tryz.zeroValue226
 t39:=Tryz.underlying330
 a39:=Tryz.isAgg330
 z39:=Tryz.sizeOf330
 v39:=Tryz.zeroValue330
 t45:=Tryz.underlying395
 a45:=Tryz.isAgg395
 z45:=Tryz.sizeOf395
 v45:=Tryz.zeroValue395
 t46:=Tryz.underlying396
 a46:=Tryz.isAgg396
 z46:=Tryz.sizeOf396
 v46:=Tryz.zeroValue396
 t50:=Tryz.underlying247
 a50:=Tryz.isAgg247
 z50:=Tryz.sizeOf247
 v50:=Tryz.zeroValue247
 t53:=Tryz.underlying232
 a53:=Tryz.isAgg232
 z53:=Tryz.sizeOf232
 v53:=Tryz.zeroValue232
 t55:=Tryz.underlying403
 a55:=Tryz.isAgg403
 z55:=Tryz.sizeOf403
 v55:=Tryz.zeroValue403
 t66:=Tryz.underlying451
 a66:=Tryz.isAgg451
 z66:=Tryz.sizeOf451
 v66:=Tryz.zeroValue451
 t70:=Tryz.underlying257
 a70:=Tryz.isAgg257
 z70:=Tryz.sizeOf257
 v70:=Tryz.zeroValue257
 t76:=Tryz.underlying485
 a76:=Tryz.isAgg485
 z76:=Tryz.sizeOf485
 v76:=Tryz.zeroValue485
 t77:=Tryz.underlying486
 a77:=Tryz.isAgg486
 z77:=Tryz.sizeOf486
 v77:=Tryz.zeroValue486 }
open Go.RowKit Go.Lib Go.Sort in
theorem Tryz.slices_SortFunc_none_f94 {α:Type} [Inhabited α] (p:Option Addr) (cap:Nat) (fv:Value) (w:World) :
  Calls Tryz.prog 94 #[.slice p 0 cap,fv] w fun e w'=>e=.returned (.tuple #[])/\w'=w:=AnyF.slices_SortFunc_none Tryz.laysSlF06_f94 p cap fv w
def Tryz.laysSlF06_f191_ren:Go.Shelf.Ren:=⟨fun | 6=>191 | 15=>176 | 14=>267 | 28=>261 | 29=>262 | 20=>326 | 21=>327 | 22=>328 | 23=>329 | 24=>330 | 25=>331 | 26=>332 | 27=>333 | 46=>383 | 47=>319 | 48=>320 | 49=>384 | 50=>385 | 57=>418 | n=>n,fun | 22=>36 | 24=>45 | 25=>338 | 3=>3 | 39=>330 | 0=>0 | 53=>232 | 55=>403 | 4=>4 | 46=>396 | 45=>395 | 50=>247 | 5=>5 | 9=>9 | 66=>451 | 70=>257 | 76=>485 | 77=>486 | n=>n,fun | n=>n⟩
theorem Tryz.laysSlF06_f191:Go.Proofs.SlLaysF0.n6 Tryz.prog Tryz.laysSlF06_f191_ren:={
 mixed:=by kernel_rfl
 f6:=⟨Tryz.f191.name,by decide,Tryz.func191.trans (congrArg some (by kernel_rfl))⟩
 f14:=⟨Tryz.f267.name,by decide,Tryz.func267.trans (congrArg some (by kernel_rfl))⟩
 f15:=Tryz.func176.trans (congrArg some (by kernel_rfl))
 f20:=⟨Tryz.f326.name,by decide,Tryz.func326.trans (congrArg some (by kernel_rfl))⟩
 f21:=⟨Tryz.f327.name,by decide,Tryz.func327.trans (congrArg some (by kernel_rfl))⟩
 f22:=⟨Tryz.f328.name,by decide,Tryz.func328.trans (congrArg some (by kernel_rfl))⟩
 f23:=⟨Tryz.f329.name,by decide,Tryz.func329.trans (congrArg some (by kernel_rfl))⟩
 f24:=⟨Tryz.f330.name,by decide,Tryz.func330.trans (congrArg some (by kernel_rfl))⟩
 f25:=⟨Tryz.f331.name,by decide,Tryz.func331.trans (congrArg some (by kernel_rfl))⟩
 f26:=⟨Tryz.f332.name,by decide,Tryz.func332.trans (congrArg some (by kernel_rfl))⟩
 f27:=⟨Tryz.f333.name,by decide,Tryz.func333.trans (congrArg some (by kernel_rfl))⟩
 f28:=Tryz.func261.trans (congrArg some (by kernel_rfl))
 f29:=Tryz.func262.trans (congrArg some (by kernel_rfl))
 f46:=⟨Tryz.f383.name,by decide,Tryz.func383.trans (congrArg some (by kernel_rfl))⟩
 f47:=Tryz.func319.trans (congrArg some (by kernel_rfl))
 f48:=Tryz.func320.trans (congrArg some (by kernel_rfl))
 f49:=⟨Tryz.f384.name,by decide,Tryz.func384.trans (congrArg some (by kernel_rfl))⟩
 f50:=⟨Tryz.f385.name,by decide,Tryz.func385.trans (congrArg some (by kernel_rfl))⟩
 f57:=⟨Tryz.f418.name,by decide,Tryz.func418.trans (congrArg some (by kernel_rfl))⟩
 t0:=Tryz.underlying0
 a0:=Tryz.isAgg0
 z0:=Tryz.sizeOf0
 v0:=Tryz.zeroValue0
 t3:=Tryz.underlying3
 a3:=Tryz.isAgg3
 z3:=Tryz.sizeOf3
 v3:=Tryz.zeroValue3
 t4:=Tryz.underlying4
 a4:=Tryz.isAgg4
 z4:=Tryz.sizeOf4
 v4:=Tryz.zeroValue4
 t5:=Tryz.underlying5
 a5:=Tryz.isAgg5
 z5:=Tryz.sizeOf5
 v5:=Tryz.zeroValue5
 t9:=Tryz.underlying9
 a9:=Tryz.isAgg9
 z9:=Tryz.sizeOf9
 v9:=Tryz.zeroValue9
 t22:=Tryz.underlying36
 a22:=Tryz.isAgg36
 z22:=Tryz.sizeOf36
 v22:=Tryz.zeroValue36
 t25:=Tryz.underlying338
 a25:=Tryz.isAgg338
 z25:=Tryz.sizeOf338
 v25:=Tryz.zeroValue338
 t39:=Tryz.underlying330
 a39:=Tryz.isAgg330
 z39:=Tryz.sizeOf330
 v39:=Tryz.zeroValue330
 t45:=Tryz.underlying395
 a45:=Tryz.isAgg395
 z45:=Tryz.sizeOf395
 v45:=Tryz.zeroValue395
 t46:=Tryz.underlying396
 a46:=Tryz.isAgg396
 z46:=Tryz.sizeOf396
 v46:=Tryz.zeroValue396
 t50:=Tryz.underlying247
 a50:=Tryz.isAgg247
 z50:=Tryz.sizeOf247
 v50:=Tryz.zeroValue247
 t53:=Tryz.underlying232
 a53:=Tryz.isAgg232
 z53:=Tryz.sizeOf232
 v53:=Tryz.zeroValue232
 t55:=Tryz.underlying403
 a55:=Tryz.isAgg403
 z55:=Tryz.sizeOf403
 v55:=Tryz.zeroValue403
 t66:=Tryz.underlying451
 a66:=Tryz.isAgg451
 z66:=Tryz.sizeOf451
 v66:=Tryz.zeroValue451
 t70:=Tryz.underlying257
 a70:=Tryz.isAgg257
 z70:=Tryz.sizeOf257
 v70:=Tryz.zeroValue257
 t76:=Tryz.underlying485
 a76:=Tryz.isAgg485
 z76:=Tryz.sizeOf485
 v76:=Tryz.zeroValue485
 t77:=Tryz.underlying486
 a77:=Tryz.isAgg486
 z77:=Tryz.sizeOf486
 v77:=Tryz.zeroValue486 }
open Go.RowKit Go.Lib Go.Sort in
theorem Tryz.slices_SortFunc_none_f191 {α:Type} [Inhabited α] (p:Option Addr) (cap:Nat) (fv:Value) (w:World) :
  Calls Tryz.prog 191 #[.slice p 0 cap,fv] w fun e w'=>e=.returned (.tuple #[])/\w'=w:=AnyF.slices_SortFunc_none Tryz.laysSlF06_f191 p cap fv w
open Go.RowKit Go.Lib Go.Sort in
theorem Tryz.slices_SortFunc_total_f94 {α:Type} [Inhabited α] (k:Nat) (aE:∀ w,(isAgg 59).run Tryz.prog w=.ok true w) (zE:∀ w,(Go.sizeOf 59).run Tryz.prog w=.ok k w) (enc:α->List Value) (hk:∀ x,(enc x).length=k) (h1:∀ x,∀ v ∈ enc x,v.oneCell'=true) (cf:α->α->Int) (hO:SWO (ltOf cf)) (g:Nat) (cb:Array Value) (blk off cap:Nat) (d:Array α) (w:World) (eg:∀ args w,(callFunc g args).run Tryz.prog w=.ok (.enter g args) w) (hcmp:CmpLays Tryz.prog g cb enc k cf blk off d.size w) (hH:HoldsK enc k w blk off d) (hblk:blk < w.heap.size) (hsz:d.size < 4611686018427387904) (hT:∀ x y,(ltOf cf) x y=false->(ltOf cf) y x=false->x=y) :
  Calls Tryz.prog 94 #[.slice (some ⟨blk,off,none⟩) d.size cap,.func (.func g) #[] cb] w fun e w' =>
   e=.returned (.tuple #[])/\∃ n os,w'=sortWorldK enc k w blk off n (d.toList.mergeSort fun x y=>!(ltOf cf) y x).toArray os:=AnyQ.slices_SortFunc_total Tryz.laysSlF06_f94 k aE zE enc hk h1 cf hO g cb blk off cap d w eg hcmp hH hblk hsz hT
open Go.RowKit Go.Lib Go.Sort in
theorem Tryz.slices_SortFunc_total_f191 {α:Type} [Inhabited α] (k:Nat) (aE:∀ w,(isAgg 45).run Tryz.prog w=.ok true w) (zE:∀ w,(Go.sizeOf 45).run Tryz.prog w=.ok k w) (enc:α->List Value) (hk:∀ x,(enc x).length=k) (h1:∀ x,∀ v ∈ enc x,v.oneCell'=true) (cf:α->α->Int) (hO:SWO (ltOf cf)) (g:Nat) (cb:Array Value) (blk off cap:Nat) (d:Array α) (w:World) (eg:∀ args w,(callFunc g args).run Tryz.prog w=.ok (.enter g args) w) (hcmp:CmpLays Tryz.prog g cb enc k cf blk off d.size w) (hH:HoldsK enc k w blk off d) (hblk:blk < w.heap.size) (hsz:d.size < 4611686018427387904) (hT:∀ x y,(ltOf cf) x y=false->(ltOf cf) y x=false->x=y) :
  Calls Tryz.prog 191 #[.slice (some ⟨blk,off,none⟩) d.size cap,.func (.func g) #[] cb] w fun e w' =>
   e=.returned (.tuple #[])/\∃ n os,w'=sortWorldK enc k w blk off n (d.toList.mergeSort fun x y=>!(ltOf cf) y x).toArray os:=AnyQ.slices_SortFunc_total Tryz.laysSlF06_f191 k aE zE enc hk h1 cf hO g cb blk off cap d w eg hcmp hH hblk hsz hT
end Go.Proofs
