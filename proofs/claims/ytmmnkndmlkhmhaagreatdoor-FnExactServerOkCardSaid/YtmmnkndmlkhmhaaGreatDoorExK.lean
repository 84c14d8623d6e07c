/- The types of the exact laws are of their shapes. -/
import Derived.Test.YtmmnkndmlkhmhaaGreatDoorExT
namespace Go.Proofs.YtmmnkndmlkhmhaaGreatDoor
open Go.RowKit Pl
set_option linter.unusedVariables false
set_option linter.unusedSimpArgs false


theorem tok_Leaf : TOk Tryz.prog 324 sh_Leaf := .st Tryz.underlying324 (by kernel_rfl) (.cons (by kernel_rfl) (.str Tryz.underlying9) (.cons (by kernel_rfl) (.str Tryz.underlying9) .nil))
theorem tok_Change : TOk Tryz.prog 238 sh_Change := .st Tryz.underlying238 (by kernel_rfl) (.cons (by kernel_rfl) (.int Tryz.underlying3) (.cons (by kernel_rfl) (.str Tryz.underlying9) (.cons (by kernel_rfl) (.str Tryz.underlying9) .nil)))
theorem tok_Ready : TOk Tryz.prog 49 sh_Ready := .st Tryz.underlying49 (by kernel_rfl) (.cons (by kernel_rfl) (.int Tryz.underlying3) (.cons (by kernel_rfl) (.int Tryz.underlying3) (.cons (by kernel_rfl) (.int Tryz.underlying3) .nil)))
theorem tok_File : TOk Tryz.prog 322 sh_File := .st Tryz.underlying322 (by kernel_rfl) (.cons (by kernel_rfl) (.str Tryz.underlying9) (.cons (by kernel_rfl) (.str Tryz.underlying9) (.cons (by kernel_rfl) (.int Tryz.underlying3) .nil)))
theorem tok_FileS : TOk Tryz.prog 43 (.sl 3 sh_File) := .sl Tryz.underlying43 (by kernel_rfl) rfl (by decide) tok_File
theorem tok_Disk : TOk Tryz.prog 45 sh_Disk := .st Tryz.underlying45 (by kernel_rfl) (.cons (by kernel_rfl) tok_FileS .nil)
theorem tok_Head : TOk Tryz.prog 294 sh_Head := .st Tryz.underlying294 (by kernel_rfl) (.cons (by kernel_rfl) (.int Tryz.underlying3) (.cons (by kernel_rfl) (.int Tryz.underlying3) (.cons (by kernel_rfl) (.str Tryz.underlying9) (.cons (by kernel_rfl) (.str Tryz.underlying9) .nil))))
theorem tok_StringS : TOk Tryz.prog 26 (.sl 1 .str) := .sl Tryz.underlying26 (by kernel_rfl) rfl (by decide) (.str Tryz.underlying9)
theorem tok_Sig : TOk Tryz.prog 278 sh_Sig := .st Tryz.underlying278 (by kernel_rfl) (.cons (by kernel_rfl) (.int Tryz.underlying3) (.cons (by kernel_rfl) tok_StringS (.cons (by kernel_rfl) tok_StringS (.cons (by kernel_rfl) tok_StringS .nil))))
theorem tok_Seal : TOk Tryz.prog 296 sh_Seal := .st Tryz.underlying296 (by kernel_rfl) (.cons (by kernel_rfl) tok_Head (.cons (by kernel_rfl) tok_Sig .nil))
theorem tok_Stamp : TOk Tryz.prog 280 sh_Stamp := .st Tryz.underlying280 (by kernel_rfl) (.cons (by kernel_rfl) (.int Tryz.underlying3) (.cons (by kernel_rfl) tok_Sig .nil))
theorem tok_Pair : TOk Tryz.prog 396 sh_Pair := .st Tryz.underlying396 (by kernel_rfl) (.cons (by kernel_rfl) tok_Seal (.cons (by kernel_rfl) tok_Seal .nil))
theorem tok_LeafS : TOk Tryz.prog 235 (.sl 2 sh_Leaf) := .sl Tryz.underlying235 (by kernel_rfl) rfl (by decide) tok_Leaf
theorem tok_LeafSS : TOk Tryz.prog 46 (.sl 1 (.sl 2 sh_Leaf)) := .sl Tryz.underlying46 (by kernel_rfl) rfl (by decide) tok_LeafS
theorem tok_IntS : TOk Tryz.prog 28 (.sl 1 .int) := .sl Tryz.underlying28 (by kernel_rfl) rfl (by decide) (.int Tryz.underlying3)
theorem tok_ChangeS : TOk Tryz.prog 47 (.sl 3 sh_Change) := .sl Tryz.underlying47 (by kernel_rfl) rfl (by decide) tok_Change
theorem tok_Server : TOk Tryz.prog 51 sh_Server := .st Tryz.underlying51 (by kernel_rfl) (.cons (by kernel_rfl) (.int Tryz.underlying3) (.cons (by kernel_rfl) (.int Tryz.underlying3) (.cons (by kernel_rfl) (.bool Tryz.underlying4) (.cons (by kernel_rfl) tok_Disk (.cons (by kernel_rfl) (.int Tryz.underlying3) (.cons (by kernel_rfl) tok_LeafSS (.cons (by kernel_rfl) tok_IntS (.cons (by kernel_rfl) tok_ChangeS (.cons (by kernel_rfl) tok_Ready .nil)))))))))
theorem tok_SealS : TOk Tryz.prog 96 (.sl 8 sh_Seal) := .sl Tryz.underlying96 (by kernel_rfl) rfl (by decide) tok_Seal
theorem tok_BoolS : TOk Tryz.prog 82 (.sl 1 .bool) := .sl Tryz.underlying82 (by kernel_rfl) rfl (by decide) (.bool Tryz.underlying4)
theorem tok_Coord : TOk Tryz.prog 98 sh_Coord := .st Tryz.underlying98 (by kernel_rfl) (.cons (by kernel_rfl) (.int Tryz.underlying3) (.cons (by kernel_rfl) (.int Tryz.underlying3) (.cons (by kernel_rfl) (.bool Tryz.underlying4) (.cons (by kernel_rfl) tok_Disk (.cons (by kernel_rfl) tok_StringS (.cons (by kernel_rfl) tok_SealS (.cons (by kernel_rfl) tok_IntS (.cons (by kernel_rfl) (.int Tryz.underlying3) (.cons (by kernel_rfl) (.bool Tryz.underlying4) (.cons (by kernel_rfl) tok_StringS (.cons (by kernel_rfl) tok_BoolS .nil)))))))))))
theorem tok_ServerS : TOk Tryz.prog 107 (.sl 11 sh_Server) := .sl Tryz.underlying107 (by kernel_rfl) rfl (by decide) tok_Server
theorem tok_House : TOk Tryz.prog 109 sh_House := .st Tryz.underlying109 (by kernel_rfl) (.cons (by kernel_rfl) tok_Coord (.cons (by kernel_rfl) tok_ServerS (.cons (by kernel_rfl) tok_StringS (.cons (by kernel_rfl) tok_IntS .nil))))
theorem tok_PairS : TOk Tryz.prog 271 (.sl 16 sh_Pair) := .sl Tryz.underlying271 (by kernel_rfl) rfl (by decide) tok_Pair
theorem tok_Auditor : TOk Tryz.prog 273 sh_Auditor := .st Tryz.underlying273 (by kernel_rfl) (.cons (by kernel_rfl) (.int Tryz.underlying3) (.cons (by kernel_rfl) (.bool Tryz.underlying4) (.cons (by kernel_rfl) tok_Disk (.cons (by kernel_rfl) tok_StringS (.cons (by kernel_rfl) tok_SealS (.cons (by kernel_rfl) tok_PairS .nil))))))
theorem tok_Note : TOk Tryz.prog 276 sh_Note := .st Tryz.underlying276 (by kernel_rfl) (.cons (by kernel_rfl) (.int Tryz.underlying3) (.cons (by kernel_rfl) (.str Tryz.underlying9) .nil))
theorem tok_Given : TOk Tryz.prog 282 sh_Given := .st Tryz.underlying282 (by kernel_rfl) (.cons (by kernel_rfl) (.int Tryz.underlying3) (.cons (by kernel_rfl) (.int Tryz.underlying3) (.cons (by kernel_rfl) tok_Stamp .nil)))
theorem tok_HouseS : TOk Tryz.prog 78 (.sl 14 sh_House) := .sl Tryz.underlying78 (by kernel_rfl) rfl (by decide) tok_House
theorem tok_AuditorS : TOk Tryz.prog 79 (.sl 6 sh_Auditor) := .sl Tryz.underlying79 (by kernel_rfl) rfl (by decide) tok_Auditor
theorem tok_NoteS : TOk Tryz.prog 80 (.sl 2 sh_Note) := .sl Tryz.underlying80 (by kernel_rfl) rfl (by decide) tok_Note
theorem tok_GivenS : TOk Tryz.prog 81 (.sl 7 sh_Given) := .sl Tryz.underlying81 (by kernel_rfl) rfl (by decide) tok_Given
theorem tok_World : TOk Tryz.prog 84 sh_World := .st Tryz.underlying84 (by kernel_rfl) (.cons (by kernel_rfl) tok_HouseS (.cons (by kernel_rfl) tok_AuditorS (.cons (by kernel_rfl) tok_NoteS (.cons (by kernel_rfl) tok_GivenS (.cons (by kernel_rfl) tok_BoolS (.cons (by kernel_rfl) tok_IntS .nil))))))
end Go.Proofs.YtmmnkndmlkhmhaaGreatDoor
