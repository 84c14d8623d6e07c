/- The types of the exact laws are of their shapes. -/
import Derived.Test.YtfgfkhmldlpmkaaGreatDoorExT
namespace Go.Proofs.YtfgfkhmldlpmkaaGreatDoor
open Go.RowKit Pl
set_option linter.unusedVariables false
set_option linter.unusedSimpArgs false


theorem tok_Leaf : TOk Tryz.prog 232 sh_Leaf := .st Tryz.underlying232 (by kernel_rfl) (.cons (by kernel_rfl) (.str Tryz.underlying9) (.cons (by kernel_rfl) (.str Tryz.underlying9) .nil))
theorem tok_Change : TOk Tryz.prog 207 sh_Change := .st Tryz.underlying207 (by kernel_rfl) (.cons (by kernel_rfl) (.int Tryz.underlying3) (.cons (by kernel_rfl) (.str Tryz.underlying9) (.cons (by kernel_rfl) (.str Tryz.underlying9) .nil)))
theorem tok_Ready : TOk Tryz.prog 162 sh_Ready := .st Tryz.underlying162 (by kernel_rfl) (.cons (by kernel_rfl) (.int Tryz.underlying3) (.cons (by kernel_rfl) (.int Tryz.underlying3) (.cons (by kernel_rfl) (.int Tryz.underlying3) .nil)))
theorem tok_File : TOk Tryz.prog 188 sh_File := .st Tryz.underlying188 (by kernel_rfl) (.cons (by kernel_rfl) (.str Tryz.underlying9) (.cons (by kernel_rfl) (.str Tryz.underlying9) (.cons (by kernel_rfl) (.int Tryz.underlying3) .nil)))
theorem tok_FileS : TOk Tryz.prog 76 (.sl 3 sh_File) := .sl Tryz.underlying76 (by kernel_rfl) rfl (by decide) tok_File
theorem tok_Disk : TOk Tryz.prog 78 sh_Disk := .st Tryz.underlying78 (by kernel_rfl) (.cons (by kernel_rfl) tok_FileS .nil)
theorem tok_Head : TOk Tryz.prog 167 sh_Head := .st Tryz.underlying167 (by kernel_rfl) (.cons (by kernel_rfl) (.int Tryz.underlying3) (.cons (by kernel_rfl) (.int Tryz.underlying3) (.cons (by kernel_rfl) (.str Tryz.underlying9) (.cons (by kernel_rfl) (.str Tryz.underlying9) .nil))))
theorem tok_StringS : TOk Tryz.prog 51 (.sl 1 .str) := .sl Tryz.underlying51 (by kernel_rfl) rfl (by decide) (.str Tryz.underlying9)
theorem tok_Sig : TOk Tryz.prog 94 sh_Sig := .st Tryz.underlying94 (by kernel_rfl) (.cons (by kernel_rfl) (.int Tryz.underlying3) (.cons (by kernel_rfl) tok_StringS (.cons (by kernel_rfl) tok_StringS (.cons (by kernel_rfl) tok_StringS .nil))))
theorem tok_Seal : TOk Tryz.prog 169 sh_Seal := .st Tryz.underlying169 (by kernel_rfl) (.cons (by kernel_rfl) tok_Head (.cons (by kernel_rfl) tok_Sig .nil))
theorem tok_Stamp : TOk Tryz.prog 96 sh_Stamp := .st Tryz.underlying96 (by kernel_rfl) (.cons (by kernel_rfl) (.int Tryz.underlying3) (.cons (by kernel_rfl) tok_Sig .nil))
theorem tok_Pair : TOk Tryz.prog 172 sh_Pair := .st Tryz.underlying172 (by kernel_rfl) (.cons (by kernel_rfl) tok_Seal (.cons (by kernel_rfl) tok_Seal .nil))
theorem tok_LeafS : TOk Tryz.prog 205 (.sl 2 sh_Leaf) := .sl Tryz.underlying205 (by kernel_rfl) rfl (by decide) tok_Leaf
theorem tok_LeafSS : TOk Tryz.prog 160 (.sl 1 (.sl 2 sh_Leaf)) := .sl Tryz.underlying160 (by kernel_rfl) rfl (by decide) tok_LeafS
theorem tok_IntS : TOk Tryz.prog 27 (.sl 1 .int) := .sl Tryz.underlying27 (by kernel_rfl) rfl (by decide) (.int Tryz.underlying3)
theorem tok_ChangeS : TOk Tryz.prog 161 (.sl 3 sh_Change) := .sl Tryz.underlying161 (by kernel_rfl) rfl (by decide) tok_Change
theorem tok_Server : TOk Tryz.prog 164 sh_Server := .st Tryz.underlying164 (by kernel_rfl) (.cons (by kernel_rfl) (.int Tryz.underlying3) (.cons (by kernel_rfl) (.int Tryz.underlying3) (.cons (by kernel_rfl) (.bool Tryz.underlying4) (.cons (by kernel_rfl) tok_Disk (.cons (by kernel_rfl) (.int Tryz.underlying3) (.cons (by kernel_rfl) tok_LeafSS (.cons (by kernel_rfl) tok_IntS (.cons (by kernel_rfl) tok_ChangeS (.cons (by kernel_rfl) tok_Ready .nil)))))))))
theorem tok_SealS : TOk Tryz.prog 79 (.sl 8 sh_Seal) := .sl Tryz.underlying79 (by kernel_rfl) rfl (by decide) tok_Seal
theorem tok_BoolS : TOk Tryz.prog 26 (.sl 1 .bool) := .sl Tryz.underlying26 (by kernel_rfl) rfl (by decide) (.bool Tryz.underlying4)
theorem tok_Coord : TOk Tryz.prog 81 sh_Coord := .st Tryz.underlying81 (by kernel_rfl) (.cons (by kernel_rfl) (.int Tryz.underlying3) (.cons (by kernel_rfl) (.int Tryz.underlying3) (.cons (by kernel_rfl) (.bool Tryz.underlying4) (.cons (by kernel_rfl) tok_Disk (.cons (by kernel_rfl) tok_StringS (.cons (by kernel_rfl) tok_SealS (.cons (by kernel_rfl) tok_IntS (.cons (by kernel_rfl) (.int Tryz.underlying3) (.cons (by kernel_rfl) (.bool Tryz.underlying4) (.cons (by kernel_rfl) tok_StringS (.cons (by kernel_rfl) tok_BoolS .nil)))))))))))
theorem tok_ServerS : TOk Tryz.prog 82 (.sl 11 sh_Server) := .sl Tryz.underlying82 (by kernel_rfl) rfl (by decide) tok_Server
theorem tok_House : TOk Tryz.prog 84 sh_House := .st Tryz.underlying84 (by kernel_rfl) (.cons (by kernel_rfl) tok_Coord (.cons (by kernel_rfl) tok_ServerS (.cons (by kernel_rfl) tok_StringS (.cons (by kernel_rfl) tok_IntS .nil))))
theorem tok_PairS : TOk Tryz.prog 86 (.sl 16 sh_Pair) := .sl Tryz.underlying86 (by kernel_rfl) rfl (by decide) tok_Pair
theorem tok_Auditor : TOk Tryz.prog 88 sh_Auditor := .st Tryz.underlying88 (by kernel_rfl) (.cons (by kernel_rfl) (.int Tryz.underlying3) (.cons (by kernel_rfl) (.bool Tryz.underlying4) (.cons (by kernel_rfl) tok_Disk (.cons (by kernel_rfl) tok_StringS (.cons (by kernel_rfl) tok_SealS (.cons (by kernel_rfl) tok_PairS .nil))))))
theorem tok_Note : TOk Tryz.prog 91 sh_Note := .st Tryz.underlying91 (by kernel_rfl) (.cons (by kernel_rfl) (.int Tryz.underlying3) (.cons (by kernel_rfl) (.str Tryz.underlying9) .nil))
theorem tok_Given : TOk Tryz.prog 98 sh_Given := .st Tryz.underlying98 (by kernel_rfl) (.cons (by kernel_rfl) (.int Tryz.underlying3) (.cons (by kernel_rfl) (.int Tryz.underlying3) (.cons (by kernel_rfl) tok_Stamp .nil)))
theorem tok_HouseS : TOk Tryz.prog 22 (.sl 14 sh_House) := .sl Tryz.underlying22 (by kernel_rfl) rfl (by decide) tok_House
theorem tok_AuditorS : TOk Tryz.prog 23 (.sl 6 sh_Auditor) := .sl Tryz.underlying23 (by kernel_rfl) rfl (by decide) tok_Auditor
theorem tok_NoteS : TOk Tryz.prog 24 (.sl 2 sh_Note) := .sl Tryz.underlying24 (by kernel_rfl) rfl (by decide) tok_Note
theorem tok_GivenS : TOk Tryz.prog 25 (.sl 7 sh_Given) := .sl Tryz.underlying25 (by kernel_rfl) rfl (by decide) tok_Given
theorem tok_World : TOk Tryz.prog 29 sh_World := .st Tryz.underlying29 (by kernel_rfl) (.cons (by kernel_rfl) tok_HouseS (.cons (by kernel_rfl) tok_AuditorS (.cons (by kernel_rfl) tok_NoteS (.cons (by kernel_rfl) tok_GivenS (.cons (by kernel_rfl) tok_BoolS (.cons (by kernel_rfl) tok_IntS .nil))))))
end Go.Proofs.YtfgfkhmldlpmkaaGreatDoor
