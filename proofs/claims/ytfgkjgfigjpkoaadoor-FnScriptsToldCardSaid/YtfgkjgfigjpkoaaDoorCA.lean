/- Functions by content: changes: their tests, texts, readers, and how they are applied. -/
import Derived.Test.YtfgkjgfigjpkoaaDoorFb
import Derived.Test.YtfgkjgfigjpkoaaDoorOld
import Derived.Test.YtfgkjgfigjpkoaaDoorFc
import Derived.Test.YtfgkjgfigjpkoaaDoorPlainM
namespace Go.Proofs.YtfgkjgfigjpkoaaDoor
set_option linter.unusedVariables false
set_option linter.unusedSimpArgs false
set_option linter.unusedSectionVars false
open Go.RowKit Pl
attribute [local irreducible] z0t z0u z0C AnsP LeP
def chL (u : Ch) : List T := [.int .i64 u.1, .str u.2.1, .str u.2.2]
def ChFit (u : Ch) : Prop := (u.2.1.length : Int) ≤ 1000000000 ∧ (u.2.2.length : Int) ≤ 1000000000
theorem z7q (u : Ch) (hf : ChFit u) : CT Tryd.prog 74 [] [.agg (chL u)] (.bool (z0s u.1 u.2.1 u.2.2)) [] :=
 zaB ⟨_, Tryd.func74, rfl, rfl⟩ rfl (fun X => z1f X _) fun w => by
  have h := z5o u.1 (bs u.2.1) (bs u.2.2) w (by rw [z0I]; exact hf.1) (by rw [z0I]; exact hf.2)
  rwa [z0T, z0T] at h
theorem z63 (u : Ch) (hf : ChFit u) : CT Tryd.prog 59 [] [.agg (chL u)] (.bool (z0s u.1 u.2.1 u.2.2)) [] :=
 zaB ⟨_, Tryd.func59, rfl, rfl⟩ rfl (fun X => z1f X _) fun w => by
  have h := z4E u.1 (bs u.2.1) (bs u.2.2) w (by rw [z0I]; exact hf.1) (by rw [z0I]; exact hf.2)
  rwa [z0T, z0T] at h
end Go.Proofs.YtfgkjgfigjpkoaaDoor
