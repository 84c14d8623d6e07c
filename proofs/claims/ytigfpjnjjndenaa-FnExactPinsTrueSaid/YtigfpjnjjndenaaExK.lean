/- The types of the exact laws are of their shapes. -/
import Derived.Test.YtigfpjnjjndenaaExT
namespace Go.Proofs.Ytigfpjnjjndenaa
open Go.RowKit Pl
set_option linter.unusedVariables false
set_option linter.unusedSimpArgs false


theorem tok_Leaf : TOk Try.prog 266 sh_Leaf := .st Try.underlying266 (by kernel_rfl) (.cons (by kernel_rfl) (.str Try.underlying9) (.cons (by kernel_rfl) (.str Try.underlying9) .nil))
theorem tok_Change : TOk Try.prog 260 sh_Change := .st Try.underlying260 (by kernel_rfl) (.cons (by kernel_rfl) (.int Try.underlying3) (.cons (by kernel_rfl) (.str Try.underlying9) (.cons (by kernel_rfl) (.str Try.underlying9) .nil)))
theorem tok_Ready : TOk Try.prog 213 sh_Ready := .st Try.underlying213 (by kernel_rfl) (.cons (by kernel_rfl) (.int Try.underlying3) (.cons (by kernel_rfl) (.int Try.underlying3) (.cons (by kernel_rfl) (.int Try.underlying3) .nil)))
theorem tok_File : TOk Try.prog 244 sh_File := .st Try.underlying244 (by kernel_rfl) (.cons (by kernel_rfl) (.str Try.underlying9) (.cons (by kernel_rfl) (.str Try.underlying9) (.cons (by kernel_rfl) (.int Try.underlying3) .nil)))
theorem tok_FileS : TOk Try.prog 149 (.sl 3 sh_File) := .sl Try.underlying149 (by kernel_rfl) rfl (by decide) tok_File
theorem tok_Disk : TOk Try.prog 151 sh_Disk := .st Try.underlying151 (by kernel_rfl) (.cons (by kernel_rfl) tok_FileS .nil)
theorem tok_Head : TOk Try.prog 218 sh_Head := .st Try.underlying218 (by kernel_rfl) (.cons (by kernel_rfl) (.int Try.underlying3) (.cons (by kernel_rfl) (.int Try.underlying3) (.cons (by kernel_rfl) (.str Try.underlying9) (.cons (by kernel_rfl) (.str Try.underlying9) .nil))))
theorem tok_StringS : TOk Try.prog 23 (.sl 1 .str) := .sl Try.underlying23 (by kernel_rfl) rfl (by decide) (.str Try.underlying9)
theorem tok_Sig : TOk Try.prog 166 sh_Sig := .st Try.underlying166 (by kernel_rfl) (.cons (by kernel_rfl) (.int Try.underlying3) (.cons (by kernel_rfl) tok_StringS (.cons (by kernel_rfl) tok_StringS (.cons (by kernel_rfl) tok_StringS .nil))))
theorem tok_Seal : TOk Try.prog 220 sh_Seal := .st Try.underlying220 (by kernel_rfl) (.cons (by kernel_rfl) tok_Head (.cons (by kernel_rfl) tok_Sig .nil))
theorem tok_Stamp : TOk Try.prog 168 sh_Stamp := .st Try.underlying168 (by kernel_rfl) (.cons (by kernel_rfl) (.int Try.underlying3) (.cons (by kernel_rfl) tok_Sig .nil))
theorem tok_Pair : TOk Try.prog 223 sh_Pair := .st Try.underlying223 (by kernel_rfl) (.cons (by kernel_rfl) tok_Seal (.cons (by kernel_rfl) tok_Seal .nil))
theorem tok_LeafS : TOk Try.prog 257 (.sl 2 sh_Leaf) := .sl Try.underlying257 (by kernel_rfl) rfl (by decide) tok_Leaf
theorem tok_LeafSS : TOk Try.prog 210 (.sl 1 (.sl 2 sh_Leaf)) := .sl Try.underlying210 (by kernel_rfl) rfl (by decide) tok_LeafS
theorem tok_IntS : TOk Try.prog 45 (.sl 1 .int) := .sl Try.underlying45 (by kernel_rfl) rfl (by decide) (.int Try.underlying3)
theorem tok_ChangeS : TOk Try.prog 211 (.sl 3 sh_Change) := .sl Try.underlying211 (by kernel_rfl) rfl (by decide) tok_Change
theorem tok_Server : TOk Try.prog 215 sh_Server := .st Try.underlying215 (by kernel_rfl) (.cons (by kernel_rfl) (.int Try.underlying3) (.cons (by kernel_rfl) (.int Try.underlying3) (.cons (by kernel_rfl) (.bool Try.underlying4) (.cons (by kernel_rfl) tok_Disk (.cons (by kernel_rfl) (.int Try.underlying3) (.cons (by kernel_rfl) tok_LeafSS (.cons (by kernel_rfl) tok_IntS (.cons (by kernel_rfl) tok_ChangeS (.cons (by kernel_rfl) tok_Ready .nil)))))))))
theorem tok_SealS : TOk Try.prog 152 (.sl 8 sh_Seal) := .sl Try.underlying152 (by kernel_rfl) rfl (by decide) tok_Seal
theorem tok_BoolS : TOk Try.prog 44 (.sl 1 .bool) := .sl Try.underlying44 (by kernel_rfl) rfl (by decide) (.bool Try.underlying4)
theorem tok_Coord : TOk Try.prog 154 sh_Coord := .st Try.underlying154 (by kernel_rfl) (.cons (by kernel_rfl) (.int Try.underlying3) (.cons (by kernel_rfl) (.int Try.underlying3) (.cons (by kernel_rfl) (.bool Try.underlying4) (.cons (by kernel_rfl) tok_Disk (.cons (by kernel_rfl) tok_StringS (.cons (by kernel_rfl) tok_SealS (.cons (by kernel_rfl) tok_IntS (.cons (by kernel_rfl) (.int Try.underlying3) (.cons (by kernel_rfl) (.bool Try.underlying4) (.cons (by kernel_rfl) tok_StringS (.cons (by kernel_rfl) tok_BoolS .nil)))))))))))
theorem tok_ServerS : TOk Try.prog 155 (.sl 11 sh_Server) := .sl Try.underlying155 (by kernel_rfl) rfl (by decide) tok_Server
theorem tok_House : TOk Try.prog 157 sh_House := .st Try.underlying157 (by kernel_rfl) (.cons (by kernel_rfl) tok_Coord (.cons (by kernel_rfl) tok_ServerS (.cons (by kernel_rfl) tok_StringS (.cons (by kernel_rfl) tok_IntS .nil))))
theorem tok_PairS : TOk Try.prog 159 (.sl 16 sh_Pair) := .sl Try.underlying159 (by kernel_rfl) rfl (by decide) tok_Pair
theorem tok_Auditor : TOk Try.prog 161 sh_Auditor := .st Try.underlying161 (by kernel_rfl) (.cons (by kernel_rfl) (.int Try.underlying3) (.cons (by kernel_rfl) (.bool Try.underlying4) (.cons (by kernel_rfl) tok_Disk (.cons (by kernel_rfl) tok_StringS (.cons (by kernel_rfl) tok_SealS (.cons (by kernel_rfl) tok_PairS .nil))))))
theorem tok_Note : TOk Try.prog 164 sh_Note := .st Try.underlying164 (by kernel_rfl) (.cons (by kernel_rfl) (.int Try.underlying3) (.cons (by kernel_rfl) (.str Try.underlying9) .nil))
theorem tok_Given : TOk Try.prog 170 sh_Given := .st Try.underlying170 (by kernel_rfl) (.cons (by kernel_rfl) (.int Try.underlying3) (.cons (by kernel_rfl) (.int Try.underlying3) (.cons (by kernel_rfl) tok_Stamp .nil)))
theorem tok_HouseS : TOk Try.prog 40 (.sl 14 sh_House) := .sl Try.underlying40 (by kernel_rfl) rfl (by decide) tok_House
theorem tok_AuditorS : TOk Try.prog 41 (.sl 6 sh_Auditor) := .sl Try.underlying41 (by kernel_rfl) rfl (by decide) tok_Auditor
theorem tok_NoteS : TOk Try.prog 42 (.sl 2 sh_Note) := .sl Try.underlying42 (by kernel_rfl) rfl (by decide) tok_Note
theorem tok_GivenS : TOk Try.prog 43 (.sl 7 sh_Given) := .sl Try.underlying43 (by kernel_rfl) rfl (by decide) tok_Given
theorem tok_World : TOk Try.prog 47 sh_World := .st Try.underlying47 (by kernel_rfl) (.cons (by kernel_rfl) tok_HouseS (.cons (by kernel_rfl) tok_AuditorS (.cons (by kernel_rfl) tok_NoteS (.cons (by kernel_rfl) tok_GivenS (.cons (by kernel_rfl) tok_BoolS (.cons (by kernel_rfl) tok_IntS .nil))))))
end Go.Proofs.Ytigfpjnjjndenaa
