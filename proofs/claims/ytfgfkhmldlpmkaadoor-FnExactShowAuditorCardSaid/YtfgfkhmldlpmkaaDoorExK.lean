/- The types of the exact laws are of their shapes. -/
import Derived.Test.YtfgfkhmldlpmkaaDoorExT
namespace Go.Proofs.YtfgfkhmldlpmkaaDoor
open Go.RowKit Pl
set_option linter.unusedVariables false
set_option linter.unusedSimpArgs false


theorem tok_Leaf : TOk Tryd.prog 181 sh_Leaf := .st Tryd.underlying181 (by kernel_rfl) (.cons (by kernel_rfl) (.str Tryd.underlying9) (.cons (by kernel_rfl) (.str Tryd.underlying9) .nil))
theorem tok_Change : TOk Tryd.prog 159 sh_Change := .st Tryd.underlying159 (by kernel_rfl) (.cons (by kernel_rfl) (.int Tryd.underlying3) (.cons (by kernel_rfl) (.str Tryd.underlying9) (.cons (by kernel_rfl) (.str Tryd.underlying9) .nil)))
theorem tok_Ready : TOk Tryd.prog 123 sh_Ready := .st Tryd.underlying123 (by kernel_rfl) (.cons (by kernel_rfl) (.int Tryd.underlying3) (.cons (by kernel_rfl) (.int Tryd.underlying3) (.cons (by kernel_rfl) (.int Tryd.underlying3) .nil)))
theorem tok_File : TOk Tryd.prog 136 sh_File := .st Tryd.underlying136 (by kernel_rfl) (.cons (by kernel_rfl) (.str Tryd.underlying9) (.cons (by kernel_rfl) (.str Tryd.underlying9) (.cons (by kernel_rfl) (.int Tryd.underlying3) .nil)))
theorem tok_FileS : TOk Tryd.prog 22 (.sl 3 sh_File) := .sl Tryd.underlying22 (by kernel_rfl) rfl (by decide) tok_File
theorem tok_Disk : TOk Tryd.prog 24 sh_Disk := .st Tryd.underlying24 (by kernel_rfl) (.cons (by kernel_rfl) tok_FileS .nil)
theorem tok_Head : TOk Tryd.prog 100 sh_Head := .st Tryd.underlying100 (by kernel_rfl) (.cons (by kernel_rfl) (.int Tryd.underlying3) (.cons (by kernel_rfl) (.int Tryd.underlying3) (.cons (by kernel_rfl) (.str Tryd.underlying9) (.cons (by kernel_rfl) (.str Tryd.underlying9) .nil))))
theorem tok_StringS : TOk Tryd.prog 25 (.sl 1 .str) := .sl Tryd.underlying25 (by kernel_rfl) rfl (by decide) (.str Tryd.underlying9)
theorem tok_Sig : TOk Tryd.prog 101 sh_Sig := .st Tryd.underlying101 (by kernel_rfl) (.cons (by kernel_rfl) (.int Tryd.underlying3) (.cons (by kernel_rfl) tok_StringS (.cons (by kernel_rfl) tok_StringS (.cons (by kernel_rfl) tok_StringS .nil))))
theorem tok_Seal : TOk Tryd.prog 103 sh_Seal := .st Tryd.underlying103 (by kernel_rfl) (.cons (by kernel_rfl) tok_Head (.cons (by kernel_rfl) tok_Sig .nil))
theorem tok_Pair : TOk Tryd.prog 106 sh_Pair := .st Tryd.underlying106 (by kernel_rfl) (.cons (by kernel_rfl) tok_Seal (.cons (by kernel_rfl) tok_Seal .nil))
theorem tok_LeafS : TOk Tryd.prog 157 (.sl 2 sh_Leaf) := .sl Tryd.underlying157 (by kernel_rfl) rfl (by decide) tok_Leaf
theorem tok_LeafSS : TOk Tryd.prog 121 (.sl 1 (.sl 2 sh_Leaf)) := .sl Tryd.underlying121 (by kernel_rfl) rfl (by decide) tok_LeafS
theorem tok_IntS : TOk Tryd.prog 42 (.sl 1 .int) := .sl Tryd.underlying42 (by kernel_rfl) rfl (by decide) (.int Tryd.underlying3)
theorem tok_ChangeS : TOk Tryd.prog 122 (.sl 3 sh_Change) := .sl Tryd.underlying122 (by kernel_rfl) rfl (by decide) tok_Change
theorem tok_Server : TOk Tryd.prog 125 sh_Server := .st Tryd.underlying125 (by kernel_rfl) (.cons (by kernel_rfl) (.int Tryd.underlying3) (.cons (by kernel_rfl) (.int Tryd.underlying3) (.cons (by kernel_rfl) (.bool Tryd.underlying4) (.cons (by kernel_rfl) tok_Disk (.cons (by kernel_rfl) (.int Tryd.underlying3) (.cons (by kernel_rfl) tok_LeafSS (.cons (by kernel_rfl) tok_IntS (.cons (by kernel_rfl) tok_ChangeS (.cons (by kernel_rfl) tok_Ready .nil)))))))))
theorem tok_SealS : TOk Tryd.prog 26 (.sl 8 sh_Seal) := .sl Tryd.underlying26 (by kernel_rfl) rfl (by decide) tok_Seal
theorem tok_BoolS : TOk Tryd.prog 43 (.sl 1 .bool) := .sl Tryd.underlying43 (by kernel_rfl) rfl (by decide) (.bool Tryd.underlying4)
theorem tok_Coord : TOk Tryd.prog 45 sh_Coord := .st Tryd.underlying45 (by kernel_rfl) (.cons (by kernel_rfl) (.int Tryd.underlying3) (.cons (by kernel_rfl) (.int Tryd.underlying3) (.cons (by kernel_rfl) (.bool Tryd.underlying4) (.cons (by kernel_rfl) tok_Disk (.cons (by kernel_rfl) tok_StringS (.cons (by kernel_rfl) tok_SealS (.cons (by kernel_rfl) tok_IntS (.cons (by kernel_rfl) (.int Tryd.underlying3) (.cons (by kernel_rfl) (.bool Tryd.underlying4) (.cons (by kernel_rfl) tok_StringS (.cons (by kernel_rfl) tok_BoolS .nil)))))))))))
theorem tok_ServerS : TOk Tryd.prog 46 (.sl 11 sh_Server) := .sl Tryd.underlying46 (by kernel_rfl) rfl (by decide) tok_Server
theorem tok_House : TOk Tryd.prog 48 sh_House := .st Tryd.underlying48 (by kernel_rfl) (.cons (by kernel_rfl) tok_Coord (.cons (by kernel_rfl) tok_ServerS (.cons (by kernel_rfl) tok_StringS (.cons (by kernel_rfl) tok_IntS .nil))))
theorem tok_PairS : TOk Tryd.prog 27 (.sl 16 sh_Pair) := .sl Tryd.underlying27 (by kernel_rfl) rfl (by decide) tok_Pair
theorem tok_Auditor : TOk Tryd.prog 29 sh_Auditor := .st Tryd.underlying29 (by kernel_rfl) (.cons (by kernel_rfl) (.int Tryd.underlying3) (.cons (by kernel_rfl) (.bool Tryd.underlying4) (.cons (by kernel_rfl) tok_Disk (.cons (by kernel_rfl) tok_StringS (.cons (by kernel_rfl) tok_SealS (.cons (by kernel_rfl) tok_PairS .nil))))))
end Go.Proofs.YtfgfkhmldlpmkaaDoor
