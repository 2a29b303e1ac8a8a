import Derived.Shelf.Bits.Mul64
import Derived.Test.YtlnfbjphfoipaaaProg
set_option linter.all false
namespace Go.Proofs
open Go.Shelf
def Try.lays212_ren:Go.Shelf.Ren:=⟨fun | 212=>107 | 263=>120 | 264=>121 | n=>n,fun | 46=>177 | 51=>92 | 146=>182 | 53=>184 | 148=>185 | n=>n,fun | n=>n⟩
theorem Try.lays212:Go.Proofs.Lays.n212 Try.prog Try.lays212_ren:={
 mixed:=by kernel_rfl
 f212:=Try.func107.trans (congrArg some (by kernel_rfl))
 f263:=Try.func120.trans (congrArg some (by kernel_rfl))
 f264:=Try.func121.trans (congrArg some (by kernel_rfl))
 t46:=Try.underlying177
 a46:=Try.isAgg177
 z46:=Try.sizeOf177
 v46:=Try.zeroValue177
 t51:=Try.underlying92
 a51:=Try.isAgg92
 z51:=Try.sizeOf92
 v51:=Try.zeroValue92
 t53:=Try.underlying184
 a53:=Try.isAgg184
 z53:=Try.sizeOf184
 v53:=Try.zeroValue184
 t146:=Try.underlying182
 a146:=Try.isAgg182
 z146:=Try.sizeOf182
 v146:=Try.zeroValue182
 t148:=Try.underlying185
 a148:=Try.isAgg185
 z148:=Try.sizeOf185
 v148:=Try.zeroValue185 }
open Go.RowKit Go.Lib in
theorem Try.bits_Mul (x y:Nat) (hx:x < 18446744073709551616) (hy:y < 18446744073709551616) (w:World) :
  Calls Try.prog 107 #[.int .u64 x,.int .u64 y] w fun e w'=>e=.returned (.tuple #[.int .u64 ((x * y / 18446744073709551616:Nat):Int),.int .u64 ((x * y % 18446744073709551616:Nat):Int)])/\w'=w:=Any.bits_Mul Try.lays212 x y hx hy w
end Go.Proofs
