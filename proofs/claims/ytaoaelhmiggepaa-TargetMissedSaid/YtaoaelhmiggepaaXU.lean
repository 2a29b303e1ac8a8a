/- The code is the program's; printed by a program. -/
import Derived.Test.YtaoaelhmiggepaaXT
import Derived.Test.YtaoaelhmiggepaaProg
import Derived.KernelRfl
namespace Go.Proofs.Ytaoaelhmiggepaa
open Go.KX
theorem xc10 : chkF Try.prog 10 x10 = true := by kernel_rfl
theorem xc58 : chkF Try.prog 58 x58 = true := by kernel_rfl
theorem xc32 : chkF Try.prog 32 x32 = true := by kernel_rfl
theorem xc73 : chkF Try.prog 73 x73 = true := by kernel_rfl
theorem xc92 : chkF Try.prog 92 x92 = true := by kernel_rfl
theorem xc118 : chkF Try.prog 118 x118 = true := by kernel_rfl
theorem xc68 : chkF Try.prog 68 x68 = true := by kernel_rfl
theorem xc101 : chkF Try.prog 101 x101 = true := by kernel_rfl
theorem xc125 : chkF Try.prog 125 x125 = true := by kernel_rfl
theorem xc121 : chkF Try.prog 121 x121 = true := by kernel_rfl
theorem xc120 : chkF Try.prog 120 x120 = true := by kernel_rfl
theorem xc131 : chkF Try.prog 131 x131 = true := by kernel_rfl
theorem xc132 : chkF Try.prog 132 x132 = true := by kernel_rfl
theorem xc134 : chkF Try.prog 134 x134 = true := by kernel_rfl
theorem xc133 : chkF Try.prog 133 x133 = true := by kernel_rfl
theorem xc140 : chkF Try.prog 140 x140 = true := by kernel_rfl
theorem xc56 : chkF Try.prog 56 x56 = true := by kernel_rfl
theorem xc104 : chkF Try.prog 104 x104 = true := by kernel_rfl
theorem xc135 : chkF Try.prog 135 x135 = true := by kernel_rfl
theorem xc80 : chkF Try.prog 80 x80 = true := by kernel_rfl
theorem xc81 : chkF Try.prog 81 x81 = true := by kernel_rfl
theorem xc115 : chkF Try.prog 115 x115 = true := by kernel_rfl
theorem xc100 : chkF Try.prog 100 x100 = true := by kernel_rfl
theorem xc79 : chkF Try.prog 79 x79 = true := by kernel_rfl
theorem xc114 : chkF Try.prog 114 x114 = true := by kernel_rfl
theorem xc116 : chkF Try.prog 116 x116 = true := by kernel_rfl
theorem xc74 : chkF Try.prog 74 x74 = true := by kernel_rfl
theorem xc88 : chkF Try.prog 88 x88 = true := by kernel_rfl
theorem xc82 : chkF Try.prog 82 x82 = true := by kernel_rfl
theorem xc87 : chkF Try.prog 87 x87 = true := by kernel_rfl
theorem xc78 : chkF Try.prog 78 x78 = true := by kernel_rfl
theorem xc46 : chkF Try.prog 46 x46 = true := by kernel_rfl
theorem xc93 : chkF Try.prog 93 x93 = true := by kernel_rfl
theorem xc119 : chkF Try.prog 119 x119 = true := by kernel_rfl
theorem xc95 : chkF Try.prog 95 x95 = true := by kernel_rfl
theorem xc94 : chkF Try.prog 94 x94 = true := by kernel_rfl
theorem xc96 : chkF Try.prog 96 x96 = true := by kernel_rfl
theorem xc97 : chkF Try.prog 97 x97 = true := by kernel_rfl
theorem xc122 : chkF Try.prog 122 x122 = true := by kernel_rfl
theorem xc40 : chkF Try.prog 40 x40 = true := by kernel_rfl
theorem xc77 : chkF Try.prog 77 x77 = true := by kernel_rfl
theorem xc52 : chkF Try.prog 52 x52 = true := by kernel_rfl
theorem xc23 : chkF Try.prog 23 x23 = true := by kernel_rfl
theorem xc49 : chkF Try.prog 49 x49 = true := by kernel_rfl
theorem xc59 : chkF Try.prog 59 x59 = true := by kernel_rfl
theorem xc60 : chkF Try.prog 60 x60 = true := by kernel_rfl
theorem xc105 : chkF Try.prog 105 x105 = true := by kernel_rfl
theorem xc109 : chkF Try.prog 109 x109 = true := by kernel_rfl
theorem xc129 : chkF Try.prog 129 x129 = true := by kernel_rfl
theorem xc128 : chkF Try.prog 128 x128 = true := by kernel_rfl
theorem xc139 : chkF Try.prog 139 x139 = true := by kernel_rfl
theorem xc138 : chkF Try.prog 138 x138 = true := by kernel_rfl
theorem xc141 : chkF Try.prog 141 x141 = true := by kernel_rfl
theorem xc130 : chkF Try.prog 130 x130 = true := by kernel_rfl
theorem xc66 : chkF Try.prog 66 x66 = true := by kernel_rfl
theorem xc110 : chkF Try.prog 110 x110 = true := by kernel_rfl
theorem xc111 : chkF Try.prog 111 x111 = true := by kernel_rfl
theorem xc65 : chkF Try.prog 65 x65 = true := by kernel_rfl
theorem xc15 : chkF Try.prog 15 x15 = true := by kernel_rfl
theorem xc64 : chkF Try.prog 64 x64 = true := by kernel_rfl
theorem xc108 : chkF Try.prog 108 x108 = true := by kernel_rfl
theorem xc17 : chkF Try.prog 17 x17 = true := by kernel_rfl
theorem xc70 : chkF Try.prog 70 x70 = true := by kernel_rfl
theorem xc69 : chkF Try.prog 69 x69 = true := by kernel_rfl
theorem xc62 : chkF Try.prog 62 x62 = true := by kernel_rfl
theorem xc61 : chkF Try.prog 61 x61 = true := by kernel_rfl
theorem xc106 : chkF Try.prog 106 x106 = true := by kernel_rfl
theorem xc127 : chkF Try.prog 127 x127 = true := by kernel_rfl
theorem xc126 : chkF Try.prog 126 x126 = true := by kernel_rfl
theorem xc137 : chkF Try.prog 137 x137 = true := by kernel_rfl
theorem xc107 : chkF Try.prog 107 x107 = true := by kernel_rfl
theorem xc63 : chkF Try.prog 63 x63 = true := by kernel_rfl
theorem xc24 : chkF Try.prog 24 x24 = true := by kernel_rfl
theorem xmixed : Try.prog.follows .mixedOrders = true := by kernel_rfl
theorem xtab : TabOK Try.prog xtb := tab_of ⟨trivial, ⟨trivial, ⟨trivial, ⟨trivial, ⟨xc15, ⟨trivial, ⟨xc63, ⟨xc127, trivial, trivial⟩, trivial⟩, ⟨xc95, trivial, trivial⟩⟩, ⟨trivial, ⟨xc79, trivial, trivial⟩, ⟨xc111, trivial, trivial⟩⟩⟩, ⟨xc23, ⟨trivial, ⟨trivial, ⟨xc135, trivial, trivial⟩, trivial⟩, trivial⟩, ⟨trivial, ⟨xc87, trivial, trivial⟩, ⟨xc119, trivial, trivial⟩⟩⟩⟩, ⟨trivial, ⟨trivial, ⟨trivial, ⟨trivial, ⟨xc131, trivial, trivial⟩, trivial⟩, trivial⟩, ⟨trivial, trivial, ⟨xc115, trivial, trivial⟩⟩⟩, ⟨trivial, ⟨trivial, ⟨trivial, ⟨xc139, trivial, trivial⟩, trivial⟩, ⟨xc107, trivial, trivial⟩⟩, ⟨xc59, trivial, trivial⟩⟩⟩⟩, ⟨trivial, ⟨trivial, ⟨xc17, ⟨trivial, ⟨xc65, ⟨xc129, trivial, trivial⟩, trivial⟩, ⟨xc97, trivial, trivial⟩⟩, ⟨xc49, ⟨xc81, trivial, trivial⟩, trivial⟩⟩, ⟨trivial, ⟨trivial, ⟨xc73, ⟨xc137, trivial, trivial⟩, trivial⟩, ⟨xc105, trivial, trivial⟩⟩, ⟨trivial, trivial, ⟨xc121, trivial, trivial⟩⟩⟩⟩, ⟨trivial, ⟨trivial, ⟨trivial, ⟨xc69, ⟨xc133, trivial, trivial⟩, trivial⟩, ⟨xc101, trivial, trivial⟩⟩, trivial⟩, ⟨trivial, ⟨trivial, ⟨xc77, ⟨xc141, trivial, trivial⟩, trivial⟩, ⟨xc109, trivial, trivial⟩⟩, ⟨xc61, ⟨xc93, trivial, trivial⟩, ⟨xc125, trivial, trivial⟩⟩⟩⟩⟩⟩, ⟨trivial, ⟨trivial, ⟨trivial, ⟨trivial, ⟨xc32, ⟨xc64, ⟨xc128, trivial, trivial⟩, trivial⟩, ⟨xc96, trivial, trivial⟩⟩, ⟨trivial, ⟨xc80, trivial, trivial⟩, trivial⟩⟩, ⟨xc24, ⟨xc40, trivial, ⟨xc104, trivial, trivial⟩⟩, ⟨xc56, ⟨xc88, trivial, trivial⟩, ⟨xc120, trivial, trivial⟩⟩⟩⟩, ⟨trivial, ⟨trivial, ⟨trivial, ⟨xc68, ⟨xc132, trivial, trivial⟩, trivial⟩, ⟨xc100, trivial, trivial⟩⟩, ⟨xc52, trivial, ⟨xc116, trivial, trivial⟩⟩⟩, ⟨trivial, ⟨trivial, ⟨trivial, ⟨xc140, trivial, trivial⟩, trivial⟩, ⟨xc108, trivial, trivial⟩⟩, ⟨xc60, ⟨xc92, trivial, trivial⟩, trivial⟩⟩⟩⟩, ⟨trivial, ⟨xc10, ⟨trivial, ⟨trivial, ⟨xc66, ⟨xc130, trivial, trivial⟩, trivial⟩, trivial⟩, ⟨trivial, ⟨xc82, trivial, trivial⟩, ⟨xc114, trivial, trivial⟩⟩⟩, ⟨trivial, ⟨trivial, ⟨xc74, ⟨xc138, trivial, trivial⟩, trivial⟩, ⟨xc106, trivial, trivial⟩⟩, ⟨xc58, trivial, ⟨xc122, trivial, trivial⟩⟩⟩⟩, ⟨trivial, ⟨trivial, ⟨trivial, ⟨xc70, ⟨xc134, trivial, trivial⟩, trivial⟩, trivial⟩, ⟨trivial, trivial, ⟨xc118, trivial, trivial⟩⟩⟩, ⟨trivial, ⟨xc46, ⟨xc78, trivial, trivial⟩, ⟨xc110, trivial, trivial⟩⟩, ⟨xc62, ⟨xc94, trivial, trivial⟩, ⟨xc126, trivial, trivial⟩⟩⟩⟩⟩⟩⟩
end Go.Proofs.Ytaoaelhmiggepaa
