/- Changes: the tests, the texts, the readers of both sides, and the law that they agree. The program's reader of fields: each of its methods, the reader's block known whole. The reference's reader of fields: each of its functions, the reader's block known whole. Changes: what both readers read. -/
import Derived.Test.YtfgkjgfigjpkoaaDoorWa
import Derived.Deep.RegionHeld3
import Derived.Test.YtfgkjgfigjpkoaaDoorPlainM
namespace Go.Proofs.YtfgkjgfigjpkoaaDoor
set_option maxRecDepth 100000
set_option maxHeartbeats 400000
set_option linter.unusedVariables false
set_option linter.unusedSimpArgs false
set_option linter.unusedSectionVars false
open Go.RowKit Pl
def z0s (id : Int) (n v : Bs) : Bool := (decide (1 ≤ id) && decide (id ≤ 99)) && z1v n && (v.isEmpty || z0Y v)
theorem z5o (id : Int) (n v : ByteArray) (w : World) (hn : (n.size : Int) ≤ 1000000000) (hv : (v.size : Int) ≤ 1000000000) :
 Calls Tryd.prog 74 #[.agg #[.int .i64 id, .string n, .string v]] w fun e w' => e = .returned (.bool (z0s id n.data.toList v.data.toList)) ∧ Below w.heap.size w w' := by
 by_cases hid : 1 ≤ id ∧ id ≤ 99
 ·obtain ⟨h1, h2⟩ := hid
  cases hN : z1v n.data.toList
  ·have hfin : z0s id n.data.toList v.data.toList = false := by rw [z0s, hN]; simp
   have HF := Lib.hid hfin
   clear hfin
   go_enter Tryd.func74, Tryd.ntmps74
   go_wp2_with (first | (go_at_call 12; refine (z1D _ _ _ _ h1 h2).mono ?_; rintro e w1 ⟨rfl, rfl⟩) | (go_at_call 83; refine (z2B _ _ hn).mono ?_; rintro e w1 ⟨rfl, rfl⟩))
   go_ret
   exact ⟨by rw [HF.out]; rfl, (Below.refl _ _).alloc (Nat.le_refl _) _⟩
  ·cases hE : v.toList.isEmpty
   ·have hfin : z0s id n.data.toList v.data.toList = z0Y v.data.toList := by rw [toList_data] at hE; rw [z0s, hN, hE]; simp [h1, h2]
    have HF := Lib.hid hfin
    clear hfin
    go_enter Tryd.func74, Tryd.ntmps74
    go_wp2_with (first | (go_at_call 12; refine (z1D _ _ _ _ h1 h2).mono ?_; rintro e w1 ⟨rfl, rfl⟩) | (go_at_call 83; refine (z2B _ _ hn).mono ?_; rintro e w1 ⟨rfl, rfl⟩) | (go_at_call 84; refine (z60 _ _ hv).mono ?_; rintro e w1 ⟨rfl, rfl⟩))
    go_ret
    exact ⟨by rw [HF.out]; rfl, (Below.refl _ _).alloc (Nat.le_refl _) _⟩
   ·have hfin : z0s id n.data.toList v.data.toList = true := by rw [toList_data] at hE; rw [z0s, hN, hE]; simp [h1, h2]
    have HF := Lib.hid hfin
    clear hfin
    go_enter Tryd.func74, Tryd.ntmps74
    go_wp2_with (first | (go_at_call 12; refine (z1D _ _ _ _ h1 h2).mono ?_; rintro e w1 ⟨rfl, rfl⟩) | (go_at_call 83; refine (z2B _ _ hn).mono ?_; rintro e w1 ⟨rfl, rfl⟩))
    go_ret
    exact ⟨by rw [HF.out]; rfl, (Below.refl _ _).alloc (Nat.le_refl _) _⟩
 ·have hfin : z0s id n.data.toList v.data.toList = false := by
   rw [z0s]
   have : (decide (1 ≤ id) && decide (id ≤ 99)) = false := by simp; omega
   rw [this]; simp
  have HF := Lib.hid hfin
  clear hfin
  go_enter Tryd.func74, Tryd.ntmps74
  go_wp2_with (go_at_call 12; refine (z7l _ _ _ _ hid).mono ?_; rintro e w1 ⟨rfl, rfl⟩)
  go_ret
  exact ⟨by rw [HF.out]; rfl, (Below.refl _ _).alloc (Nat.le_refl _) _⟩
theorem z4E (id : Int) (n v : ByteArray) (w : World) (hn : (n.size : Int) ≤ 1000000000) (hv : (v.size : Int) ≤ 1000000000) :
 Calls Tryd.prog 59 #[.agg #[.int .i64 id, .string n, .string v]] w fun e w' => e = .returned (.bool (z0s id n.data.toList v.data.toList)) ∧ Below w.heap.size w w' := by
 by_cases hid : 1 ≤ id ∧ id ≤ 99
 ·obtain ⟨h1, h2⟩ := hid
  cases hN : z1v n.data.toList
  ·have hfin : z0s id n.data.toList v.data.toList = false := by rw [z0s, hN]; simp
   have HF := Lib.hid hfin
   clear hfin
   go_enter Tryd.func59, Tryd.ntmps59
   go_wp2_with (first | (go_at_call 30; refine (z3m _ _ _ _ h1 h2).mono ?_; rintro e w1 ⟨rfl, rfl⟩) | (go_at_call 75; refine (z27 _ _ hn).mono ?_; rintro e w1 ⟨rfl, rfl⟩))
   go_ret
   exact ⟨by rw [HF.out]; rfl, (Below.refl _ _).alloc (Nat.le_refl _) _⟩
  ·cases hE : v.toList.isEmpty
   ·have hfin : z0s id n.data.toList v.data.toList = z0Y v.data.toList := by rw [toList_data] at hE; rw [z0s, hN, hE]; simp [h1, h2]
    have HF := Lib.hid hfin
    clear hfin
    go_enter Tryd.func59, Tryd.ntmps59
    go_wp2_with (first | (go_at_call 30; refine (z3m _ _ _ _ h1 h2).mono ?_; rintro e w1 ⟨rfl, rfl⟩) | (go_at_call 75; refine (z27 _ _ hn).mono ?_; rintro e w1 ⟨rfl, rfl⟩) | (go_at_call 76; refine (z5g _ _ hv).mono ?_; rintro e w1 ⟨rfl, rfl⟩))
    go_ret
    exact ⟨by rw [HF.out]; rfl, (Below.refl _ _).alloc (Nat.le_refl _) _⟩
   ·have hfin : z0s id n.data.toList v.data.toList = true := by rw [toList_data] at hE; rw [z0s, hN, hE]; simp [h1, h2]
    have HF := Lib.hid hfin
    clear hfin
    go_enter Tryd.func59, Tryd.ntmps59
    go_wp2_with (first | (go_at_call 30; refine (z3m _ _ _ _ h1 h2).mono ?_; rintro e w1 ⟨rfl, rfl⟩) | (go_at_call 75; refine (z27 _ _ hn).mono ?_; rintro e w1 ⟨rfl, rfl⟩))
    go_ret
    exact ⟨by rw [HF.out]; rfl, (Below.refl _ _).alloc (Nat.le_refl _) _⟩
 ·have hfin : z0s id n.data.toList v.data.toList = false := by
   rw [z0s]
   have : (decide (1 ≤ id) && decide (id ≤ 99)) = false := by simp; omega
   rw [this]; simp
  have HF := Lib.hid hfin
  clear hfin
  go_enter Tryd.func59, Tryd.ntmps59
  go_wp2_with (go_at_call 30; refine (z8s _ _ _ _ hid).mono ?_; rintro e w1 ⟨rfl, rfl⟩)
  go_ret
  exact ⟨by rw [HF.out]; rfl, (Below.refl _ _).alloc (Nat.le_refl _) _⟩
end Go.Proofs.YtfgkjgfigjpkoaaDoor
namespace Go.Proofs.YtfgkjgfigjpkoaaDoor
set_option linter.unusedVariables false
set_option linter.unusedSimpArgs false
set_option linter.unusedSectionVars false
open Go.RowKit Pl
section
variable {g : Nat} {s : ByteArray} {p q n : Nat} {bad b : Bool} {l : Bs} {w : World} (hs : (s.size : Int) ≤ 1000000000) (hp : p ≤ s.size)
include hs hp
end
end Go.Proofs.YtfgkjgfigjpkoaaDoor
namespace Go.Proofs.YtfgkjgfigjpkoaaDoor
set_option linter.unusedVariables false
set_option linter.unusedSimpArgs false
set_option linter.unusedSectionVars false
open Go.RowKit Pl
section
variable {g : Nat} {s : ByteArray} {p q n : Nat} {z : Int} {bad b : Bool} {l : Bs} {w : World} (hs : (s.size : Int) ≤ 1000000000) (hp : p ≤ s.size)
include hs hp
end
end Go.Proofs.YtfgkjgfigjpkoaaDoor
namespace Go.Proofs.YtfgkjgfigjpkoaaDoor
set_option linter.unusedVariables false
set_option linter.unusedSimpArgs false
set_option linter.unusedSectionVars false
open Go.RowKit Pl
end Go.Proofs.YtfgkjgfigjpkoaaDoor
