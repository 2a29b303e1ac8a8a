/- The code is the program's; printed by a program. -/
import Derived.Test.YtnllmignponhdaaXT
import Derived.Test.YtnllmignponhdaaProg
import Derived.KernelRfl
namespace Go.Proofs.Ytnllmignponhdaa
open Go.KX
theorem xc24 : chkF Try.prog 24 x24 = true := by kernel_rfl
theorem xc78 : chkF Try.prog 78 x78 = true := by kernel_rfl
theorem xc39 : chkF Try.prog 39 x39 = true := by kernel_rfl
theorem xc89 : chkF Try.prog 89 x89 = true := by kernel_rfl
theorem xc108 : chkF Try.prog 108 x108 = true := by kernel_rfl
theorem xc136 : chkF Try.prog 136 x136 = true := by kernel_rfl
theorem xc82 : chkF Try.prog 82 x82 = true := by kernel_rfl
theorem xc121 : chkF Try.prog 121 x121 = true := by kernel_rfl
theorem xc144 : chkF Try.prog 144 x144 = true := by kernel_rfl
theorem xc139 : chkF Try.prog 139 x139 = true := by kernel_rfl
theorem xc138 : chkF Try.prog 138 x138 = true := by kernel_rfl
theorem xc147 : chkF Try.prog 147 x147 = true := by kernel_rfl
theorem xc148 : chkF Try.prog 148 x148 = true := by kernel_rfl
theorem xc150 : chkF Try.prog 150 x150 = true := by kernel_rfl
theorem xc149 : chkF Try.prog 149 x149 = true := by kernel_rfl
theorem xc153 : chkF Try.prog 153 x153 = true := by kernel_rfl
theorem xc72 : chkF Try.prog 72 x72 = true := by kernel_rfl
theorem xc124 : chkF Try.prog 124 x124 = true := by kernel_rfl
theorem xc151 : chkF Try.prog 151 x151 = true := by kernel_rfl
theorem xc96 : chkF Try.prog 96 x96 = true := by kernel_rfl
theorem xc97 : chkF Try.prog 97 x97 = true := by kernel_rfl
theorem xc133 : chkF Try.prog 133 x133 = true := by kernel_rfl
theorem xc120 : chkF Try.prog 120 x120 = true := by kernel_rfl
theorem xc95 : chkF Try.prog 95 x95 = true := by kernel_rfl
theorem xc132 : chkF Try.prog 132 x132 = true := by kernel_rfl
theorem xc134 : chkF Try.prog 134 x134 = true := by kernel_rfl
theorem xc90 : chkF Try.prog 90 x90 = true := by kernel_rfl
theorem xc104 : chkF Try.prog 104 x104 = true := by kernel_rfl
theorem xc98 : chkF Try.prog 98 x98 = true := by kernel_rfl
theorem xc103 : chkF Try.prog 103 x103 = true := by kernel_rfl
theorem xc94 : chkF Try.prog 94 x94 = true := by kernel_rfl
theorem xc53 : chkF Try.prog 53 x53 = true := by kernel_rfl
theorem xc109 : chkF Try.prog 109 x109 = true := by kernel_rfl
theorem xc137 : chkF Try.prog 137 x137 = true := by kernel_rfl
theorem xc111 : chkF Try.prog 111 x111 = true := by kernel_rfl
theorem xc110 : chkF Try.prog 110 x110 = true := by kernel_rfl
theorem xc112 : chkF Try.prog 112 x112 = true := by kernel_rfl
theorem xc113 : chkF Try.prog 113 x113 = true := by kernel_rfl
theorem xc140 : chkF Try.prog 140 x140 = true := by kernel_rfl
theorem xc47 : chkF Try.prog 47 x47 = true := by kernel_rfl
theorem xc93 : chkF Try.prog 93 x93 = true := by kernel_rfl
theorem xc59 : chkF Try.prog 59 x59 = true := by kernel_rfl
theorem xc17 : chkF Try.prog 17 x17 = true := by kernel_rfl
theorem xc56 : chkF Try.prog 56 x56 = true := by kernel_rfl
theorem xc79 : chkF Try.prog 79 x79 = true := by kernel_rfl
theorem xc21 : chkF Try.prog 21 x21 = true := by kernel_rfl
theorem xc74 : chkF Try.prog 74 x74 = true := by kernel_rfl
theorem xc27 : chkF Try.prog 27 x27 = true := by kernel_rfl
theorem xc84 : chkF Try.prog 84 x84 = true := by kernel_rfl
theorem xc83 : chkF Try.prog 83 x83 = true := by kernel_rfl
theorem xc129 : chkF Try.prog 129 x129 = true := by kernel_rfl
theorem xc128 : chkF Try.prog 128 x128 = true := by kernel_rfl
theorem xc145 : chkF Try.prog 145 x145 = true := by kernel_rfl
theorem xc85 : chkF Try.prog 85 x85 = true := by kernel_rfl
theorem xc77 : chkF Try.prog 77 x77 = true := by kernel_rfl
theorem xc126 : chkF Try.prog 126 x126 = true := by kernel_rfl
theorem xc127 : chkF Try.prog 127 x127 = true := by kernel_rfl
theorem xc76 : chkF Try.prog 76 x76 = true := by kernel_rfl
theorem xc23 : chkF Try.prog 23 x23 = true := by kernel_rfl
theorem xc75 : chkF Try.prog 75 x75 = true := by kernel_rfl
theorem xc125 : chkF Try.prog 125 x125 = true := by kernel_rfl
theorem xc62 : chkF Try.prog 62 x62 = true := by kernel_rfl
theorem xc115 : chkF Try.prog 115 x115 = true := by kernel_rfl
theorem xc114 : chkF Try.prog 114 x114 = true := by kernel_rfl
theorem xc80 : chkF Try.prog 80 x80 = true := by kernel_rfl
theorem xc32 : chkF Try.prog 32 x32 = true := by kernel_rfl
theorem xc86 : chkF Try.prog 86 x86 = true := by kernel_rfl
theorem xc131 : chkF Try.prog 131 x131 = true := by kernel_rfl
theorem xc130 : chkF Try.prog 130 x130 = true := by kernel_rfl
theorem xc146 : chkF Try.prog 146 x146 = true := by kernel_rfl
theorem xc87 : chkF Try.prog 87 x87 = true := by kernel_rfl
theorem xc81 : chkF Try.prog 81 x81 = true := by kernel_rfl
theorem xc34 : chkF Try.prog 34 x34 = true := by kernel_rfl
theorem xmixed : Try.prog.follows .mixedOrders = true := by kernel_rfl
theorem xtab : TabOK Try.prog xtb := tab_of ⟨trivial, ⟨trivial, ⟨trivial, ⟨trivial, ⟨trivial, ⟨trivial, ⟨trivial, ⟨xc127, trivial, trivial⟩, trivial⟩, ⟨xc95, trivial, trivial⟩⟩, ⟨xc47, ⟨xc79, trivial, trivial⟩, ⟨xc111, trivial, trivial⟩⟩⟩, ⟨xc23, ⟨xc39, trivial, ⟨xc103, trivial, trivial⟩⟩, ⟨trivial, ⟨xc87, ⟨xc151, trivial, trivial⟩, trivial⟩, trivial⟩⟩⟩, ⟨trivial, ⟨trivial, ⟨trivial, ⟨trivial, ⟨xc131, trivial, trivial⟩, trivial⟩, trivial⟩, ⟨trivial, ⟨xc83, ⟨xc147, trivial, trivial⟩, trivial⟩, ⟨xc115, trivial, trivial⟩⟩⟩, ⟨xc27, ⟨trivial, ⟨xc75, ⟨xc139, trivial, trivial⟩, trivial⟩, trivial⟩, ⟨xc59, trivial, trivial⟩⟩⟩⟩, ⟨trivial, ⟨trivial, ⟨xc17, ⟨trivial, ⟨trivial, ⟨xc129, trivial, trivial⟩, trivial⟩, ⟨xc97, trivial, trivial⟩⟩, ⟨trivial, ⟨xc81, ⟨xc145, trivial, trivial⟩, trivial⟩, ⟨xc113, trivial, trivial⟩⟩⟩, ⟨trivial, ⟨trivial, ⟨trivial, ⟨xc137, trivial, trivial⟩, trivial⟩, trivial⟩, ⟨trivial, ⟨xc89, ⟨xc153, trivial, trivial⟩, trivial⟩, ⟨xc121, trivial, trivial⟩⟩⟩⟩, ⟨trivial, ⟨xc21, ⟨trivial, ⟨trivial, ⟨xc133, trivial, trivial⟩, trivial⟩, trivial⟩, ⟨xc53, ⟨xc85, ⟨xc149, trivial, trivial⟩, trivial⟩, trivial⟩⟩, ⟨trivial, ⟨trivial, ⟨xc77, trivial, trivial⟩, ⟨xc109, trivial, trivial⟩⟩, ⟨trivial, ⟨xc93, trivial, trivial⟩, ⟨xc125, trivial, trivial⟩⟩⟩⟩⟩⟩, ⟨trivial, ⟨trivial, ⟨trivial, ⟨trivial, ⟨xc32, ⟨trivial, ⟨xc128, trivial, trivial⟩, trivial⟩, ⟨xc96, trivial, trivial⟩⟩, ⟨trivial, ⟨xc80, ⟨xc144, trivial, trivial⟩, trivial⟩, ⟨xc112, trivial, trivial⟩⟩⟩, ⟨xc24, ⟨trivial, ⟨xc72, ⟨xc136, trivial, trivial⟩, trivial⟩, ⟨xc104, trivial, trivial⟩⟩, ⟨xc56, trivial, ⟨xc120, trivial, trivial⟩⟩⟩⟩, ⟨trivial, ⟨trivial, ⟨trivial, ⟨trivial, ⟨xc132, trivial, trivial⟩, trivial⟩, trivial⟩, ⟨trivial, ⟨xc84, ⟨xc148, trivial, trivial⟩, trivial⟩, trivial⟩⟩, ⟨trivial, ⟨trivial, ⟨xc76, ⟨xc140, trivial, trivial⟩, trivial⟩, ⟨xc108, trivial, trivial⟩⟩, ⟨trivial, trivial, ⟨xc124, trivial, trivial⟩⟩⟩⟩⟩, ⟨trivial, ⟨trivial, ⟨trivial, ⟨xc34, ⟨trivial, ⟨xc130, trivial, trivial⟩, trivial⟩, ⟨xc98, trivial, trivial⟩⟩, ⟨trivial, ⟨xc82, ⟨xc146, trivial, trivial⟩, trivial⟩, ⟨xc114, trivial, trivial⟩⟩⟩, ⟨trivial, ⟨trivial, ⟨xc74, ⟨xc138, trivial, trivial⟩, trivial⟩, trivial⟩, ⟨trivial, ⟨xc90, trivial, trivial⟩, trivial⟩⟩⟩, ⟨trivial, ⟨trivial, ⟨trivial, ⟨trivial, ⟨xc134, trivial, trivial⟩, trivial⟩, trivial⟩, ⟨trivial, ⟨xc86, ⟨xc150, trivial, trivial⟩, trivial⟩, trivial⟩⟩, ⟨trivial, ⟨trivial, ⟨xc78, trivial, trivial⟩, ⟨xc110, trivial, trivial⟩⟩, ⟨xc62, ⟨xc94, trivial, trivial⟩, ⟨xc126, trivial, trivial⟩⟩⟩⟩⟩⟩⟩
end Go.Proofs.Ytnllmignponhdaa
