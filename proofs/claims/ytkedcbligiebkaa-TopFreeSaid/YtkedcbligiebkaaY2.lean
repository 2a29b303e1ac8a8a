import Derived.Shelf.Bits.Mul64
import Derived.Ground.Names2Prog
import Derived.Ground.SlsfProg
import Derived.Test.YtkedcbligiebkaaProg
set_option linter.all false
namespace Go.Proofs
open Go.Shelf
def Try.lays212_ren:Go.Shelf.Ren:=⟨fun | 212=>61 | 263=>65 | 264=>66 | n=>n,fun | 46=>111 | 51=>59 | 146=>138 | 53=>140 | 148=>141 | n=>n,fun | n=>n⟩
theorem Try.lays212:Go.Proofs.Lays.n212 Try.prog Try.lays212_ren:={
 mixed:=by kernel_rfl
 f212:=Try.func61.trans (congrArg some (by kernel_rfl))
 f263:=Try.func65.trans (congrArg some (by kernel_rfl))
 f264:=Try.func66.trans (congrArg some (by kernel_rfl))
 t46:=Try.underlying111
 a46:=Try.isAgg111
 z46:=Try.sizeOf111
 v46:=Try.zeroValue111
 t51:=Try.underlying59
 a51:=Try.isAgg59
 z51:=Try.sizeOf59
 v51:=Try.zeroValue59
 t53:=Try.underlying140
 a53:=Try.isAgg140
 z53:=Try.sizeOf140
 v53:=Try.zeroValue140
 t146:=Try.underlying138
 a146:=Try.isAgg138
 z146:=Try.sizeOf138
 v146:=Try.zeroValue138
 t148:=Try.underlying141
 a148:=Try.isAgg141
 z148:=Try.sizeOf141
 v148:=Try.zeroValue141 }
open Go.RowKit Go.Lib in
theorem Try.bits_Mul (x y:Nat) (hx:x < 18446744073709551616) (hy:y < 18446744073709551616) (w:World) :
  Calls Try.prog 61 #[.int .u64 x,.int .u64 y] w fun e w'=>e=.returned (.tuple #[.int .u64 ((x * y / 18446744073709551616:Nat):Int),.int .u64 ((x * y % 18446744073709551616:Nat):Int)])/\w'=w:=Any.bits_Mul Try.lays212 x y hx hy w
end Go.Proofs
