/- Plain: a sealed text with one byte turned is sealed no more; letters are read as they were written. Letters: the tests and the texts of both sides. Letters: sealing, and the bytes of a letter, both sides. Letters: ReadLetter, both sides. Letters: the reference ReadLetter. -/
import Derived.Test.YtkjjacndfieeoaaGreatDoorPlainM
import Derived.Test.YtkjjacndfieeoaaGreatDoorOld
import Derived.Test.YtkjjacndfieeoaaGreatDoorWax
namespace Go.Proofs.YtkjjacndfieeoaaGreatDoor.Pl
set_option linter.unusedVariables false
set_option linter.unusedSimpArgs false
set_option linter.unusedSectionVars false
end Go.Proofs.YtkjjacndfieeoaaGreatDoor.Pl
namespace Go.Proofs.YtkjjacndfieeoaaGreatDoor
set_option maxRecDepth 100000
set_option maxHeartbeats 1000000
set_option linter.unusedVariables false
set_option linter.unusedSimpArgs false
set_option linter.unusedSectionVars false
open Go.RowKit Pl
theorem in_B (n lo hi : Int) (w : World) :
 Calls Tryz.prog 28 #[.int .i64 n, .int .i64 lo, .int .i64 hi] w fun e w' => e = .returned (.bool (inB n lo hi)) ∧ w = w' := by
 by_cases h : lo ≤ n ∧ n ≤ hi
 ·rw [show inB n lo hi = true by simp [inB, h]]; exact zhJ n lo hi w h.1 h.2
 ·rw [show inB n lo hi = false by simp only [inB, Bool.and_eq_false_iff, decide_eq_false_iff_not]; omega]; exact in_no n lo hi w h
theorem z1v (n lo hi : Int) (w : World) :
 Calls Tryz.prog 42 #[.int .i64 n, .int .i64 lo, .int .i64 hi] w fun e w' => e = .returned (.bool (inB n lo hi)) ∧ w = w' := by
 by_cases h : lo ≤ n ∧ n ≤ hi
 ·rw [show inB n lo hi = true by simp [inB, h]]; exact zeK n lo hi w h.1 h.2
 ·rw [show inB n lo hi = false by simp only [inB, Bool.and_eq_false_iff, decide_eq_false_iff_not]; omega]; exact sin_no n lo hi w h
theorem z0s (n : Int) (w : World) :
 Calls Tryz.prog 72 #[.int .i64 n] w fun e w' => e = .returned (.bool (inB n 1 4)) ∧ w = w' := by
 go_enter Tryz.func72, Tryz.ntmps72
 go_wp2_with (go_at_call 28; refine (in_B _ _ _ _).mono ?_; rintro e w1 ⟨rfl, rfl⟩)
 go_ret
 exact ⟨rfl, rfl⟩
theorem zdN (f t e y : Int) (r : ByteArray) (w : World) :
 Calls Tryz.prog 40 #[.agg #[.int .i64 1, .int .i64 f, .int .i64 t, .int .i64 e, .int .i64 y, .string r]] w fun e' w' => e' = .returned (.bool (z04 1 f t e y r.data.toList)) ∧ Below w.heap.size w w' := by
 cases he : inB e 1 4
 ·skip
  have hfin : z04 1 f t e y r.data.toList = false := by simp [z04, he]
  have HF := Lib.hid hfin
  clear hfin
  go_enter Tryz.func40, Tryz.ntmps40
  go_wp2_with (first | (go_at_call 72; refine (z0s _ _).mono ?_; rintro e w1 ⟨rfl, rfl⟩) | (go_at_call 28; refine (in_B _ _ _ _).mono ?_; rintro e w1 ⟨rfl, rfl⟩))
  go_ret
  exact ⟨by rw [HF.out]; rfl, (Below.refl _ _).alloc (Nat.le_refl _) _⟩
 ·cases hy : inB y 1 1000
  ·skip
   have hfin : z04 1 f t e y r.data.toList = false := by simp [z04, hy]
   have HF := Lib.hid hfin
   clear hfin
   go_enter Tryz.func40, Tryz.ntmps40
   go_wp2_with (first | (go_at_call 72; refine (z0s _ _).mono ?_; rintro e w1 ⟨rfl, rfl⟩) | (go_at_call 28; refine (in_B _ _ _ _).mono ?_; rintro e w1 ⟨rfl, rfl⟩))
   go_ret
   exact ⟨by rw [HF.out]; rfl, (Below.refl _ _).alloc (Nat.le_refl _) _⟩
  ·by_cases hz : f = 0
   ·subst hz
    cases hr : inB t 1 4
    ·skip
     have hfin : z04 1 0 t e y r.data.toList = false := by simp [z04, he, hy, hr]
     have HF := Lib.hid hfin
     clear hfin
     go_enter Tryz.func40, Tryz.ntmps40
     go_wp2_with (first | (go_at_call 72; refine (z0s _ _).mono ?_; rintro e w1 ⟨rfl, rfl⟩) | (go_at_call 28; refine (in_B _ _ _ _).mono ?_; rintro e w1 ⟨rfl, rfl⟩))
     go_ret
     exact ⟨by rw [HF.out]; rfl, (Below.refl _ _).alloc (Nat.le_refl _) _⟩
    ·cases hE : r.toList.isEmpty
     ·have hE2 : r.data.toList.isEmpty = false := by rw [← toList_data]; exact hE
      have hfin : z04 1 0 t e y r.data.toList = false := by simp only [z04, he, hy, hr, hE2]; rfl
      clear hE2
      have HF := Lib.hid hfin
      clear hfin
      go_enter Tryz.func40, Tryz.ntmps40
      go_wp2_with (first | (go_at_call 72; refine (z0s _ _).mono ?_; rintro e w1 ⟨rfl, rfl⟩) | (go_at_call 28; refine (in_B _ _ _ _).mono ?_; rintro e w1 ⟨rfl, rfl⟩))
      go_ret
      exact ⟨by rw [HF.out]; rfl, (Below.refl _ _).alloc (Nat.le_refl _) _⟩
     ·have hE2 : r.data.toList.isEmpty = true := by rw [← toList_data]; exact hE
      have hfin : z04 1 0 t e y r.data.toList = true := by simp only [z04, he, hy, hr, hE2]; rfl
      clear hE2
      have HF := Lib.hid hfin
      clear hfin
      go_enter Tryz.func40, Tryz.ntmps40
      go_wp2_with (first | (go_at_call 72; refine (z0s _ _).mono ?_; rintro e w1 ⟨rfl, rfl⟩) | (go_at_call 28; refine (in_B _ _ _ _).mono ?_; rintro e w1 ⟨rfl, rfl⟩))
      go_ret
      exact ⟨by rw [HF.out]; rfl, (Below.refl _ _).alloc (Nat.le_refl _) _⟩
   ·have hz1 : (f == 0) = false := by simpa using hz
    have hfin : z04 1 f t e y r.data.toList = false := by simp [z04, hz]
    clear hz
    have HF := Lib.hid hfin
    clear hfin
    go_enter Tryz.func40, Tryz.ntmps40
    go_wp2_with (first | (go_at_call 72; refine (z0s _ _).mono ?_; rintro e w1 ⟨rfl, rfl⟩) | (go_at_call 28; refine (in_B _ _ _ _).mono ?_; rintro e w1 ⟨rfl, rfl⟩))
    go_ret
    exact ⟨by rw [HF.out]; rfl, (Below.refl _ _).alloc (Nat.le_refl _) _⟩
theorem zdO (f t e y : Int) (r : ByteArray) (w : World) :
 Calls Tryz.prog 40 #[.agg #[.int .i64 3, .int .i64 f, .int .i64 t, .int .i64 e, .int .i64 y, .string r]] w fun e' w' => e' = .returned (.bool (z04 3 f t e y r.data.toList)) ∧ Below w.heap.size w w' := by
 cases he : inB e 1 4
 ·skip
  have hfin : z04 3 f t e y r.data.toList = false := by simp [z04, he]
  have HF := Lib.hid hfin
  clear hfin
  go_enter Tryz.func40, Tryz.ntmps40
  go_wp2_with (first | (go_at_call 72; refine (z0s _ _).mono ?_; rintro e w1 ⟨rfl, rfl⟩) | (go_at_call 28; refine (in_B _ _ _ _).mono ?_; rintro e w1 ⟨rfl, rfl⟩))
  go_ret
  exact ⟨by rw [HF.out]; rfl, (Below.refl _ _).alloc (Nat.le_refl _) _⟩
 ·cases hy : inB y 1 1000
  ·skip
   have hfin : z04 3 f t e y r.data.toList = false := by simp [z04, hy]
   have HF := Lib.hid hfin
   clear hfin
   go_enter Tryz.func40, Tryz.ntmps40
   go_wp2_with (first | (go_at_call 72; refine (z0s _ _).mono ?_; rintro e w1 ⟨rfl, rfl⟩) | (go_at_call 28; refine (in_B _ _ _ _).mono ?_; rintro e w1 ⟨rfl, rfl⟩))
   go_ret
   exact ⟨by rw [HF.out]; rfl, (Below.refl _ _).alloc (Nat.le_refl _) _⟩
  ·by_cases hz : f = 0
   ·subst hz
    cases hr : inB t 1 4
    ·skip
     have hfin : z04 3 0 t e y r.data.toList = false := by simp [z04, he, hy, hr]
     have HF := Lib.hid hfin
     clear hfin
     go_enter Tryz.func40, Tryz.ntmps40
     go_wp2_with (first | (go_at_call 72; refine (z0s _ _).mono ?_; rintro e w1 ⟨rfl, rfl⟩) | (go_at_call 28; refine (in_B _ _ _ _).mono ?_; rintro e w1 ⟨rfl, rfl⟩))
     go_ret
     exact ⟨by rw [HF.out]; rfl, (Below.refl _ _).alloc (Nat.le_refl _) _⟩
    ·cases hE : r.toList.isEmpty
     ·have hE2 : r.data.toList.isEmpty = false := by rw [← toList_data]; exact hE
      have hfin : z04 3 0 t e y r.data.toList = false := by simp only [z04, he, hy, hr, hE2]; rfl
      clear hE2
      have HF := Lib.hid hfin
      clear hfin
      go_enter Tryz.func40, Tryz.ntmps40
      go_wp2_with (first | (go_at_call 72; refine (z0s _ _).mono ?_; rintro e w1 ⟨rfl, rfl⟩) | (go_at_call 28; refine (in_B _ _ _ _).mono ?_; rintro e w1 ⟨rfl, rfl⟩))
      go_ret
      exact ⟨by rw [HF.out]; rfl, (Below.refl _ _).alloc (Nat.le_refl _) _⟩
     ·have hE2 : r.data.toList.isEmpty = true := by rw [← toList_data]; exact hE
      have hfin : z04 3 0 t e y r.data.toList = true := by simp only [z04, he, hy, hr, hE2]; rfl
      clear hE2
      have HF := Lib.hid hfin
      clear hfin
      go_enter Tryz.func40, Tryz.ntmps40
      go_wp2_with (first | (go_at_call 72; refine (z0s _ _).mono ?_; rintro e w1 ⟨rfl, rfl⟩) | (go_at_call 28; refine (in_B _ _ _ _).mono ?_; rintro e w1 ⟨rfl, rfl⟩))
      go_ret
      exact ⟨by rw [HF.out]; rfl, (Below.refl _ _).alloc (Nat.le_refl _) _⟩
   ·have hz1 : (f == 0) = false := by simpa using hz
    have hfin : z04 3 f t e y r.data.toList = false := by simp [z04, hz]
    clear hz
    have HF := Lib.hid hfin
    clear hfin
    go_enter Tryz.func40, Tryz.ntmps40
    go_wp2_with (first | (go_at_call 72; refine (z0s _ _).mono ?_; rintro e w1 ⟨rfl, rfl⟩) | (go_at_call 28; refine (in_B _ _ _ _).mono ?_; rintro e w1 ⟨rfl, rfl⟩))
    go_ret
    exact ⟨by rw [HF.out]; rfl, (Below.refl _ _).alloc (Nat.le_refl _) _⟩
theorem zdP (f t e y : Int) (r : ByteArray) (w : World) :
 Calls Tryz.prog 40 #[.agg #[.int .i64 4, .int .i64 f, .int .i64 t, .int .i64 e, .int .i64 y, .string r]] w fun e' w' => e' = .returned (.bool (z04 4 f t e y r.data.toList)) ∧ Below w.heap.size w w' := by
 cases he : inB e 1 4
 ·skip
  have hfin : z04 4 f t e y r.data.toList = false := by simp [z04, he]
  have HF := Lib.hid hfin
  clear hfin
  go_enter Tryz.func40, Tryz.ntmps40
  go_wp2_with (first | (go_at_call 72; refine (z0s _ _).mono ?_; rintro e w1 ⟨rfl, rfl⟩) | (go_at_call 28; refine (in_B _ _ _ _).mono ?_; rintro e w1 ⟨rfl, rfl⟩))
  go_ret
  exact ⟨by rw [HF.out]; rfl, (Below.refl _ _).alloc (Nat.le_refl _) _⟩
 ·cases hy : inB y 1 1000
  ·skip
   have hfin : z04 4 f t e y r.data.toList = false := by simp [z04, hy]
   have HF := Lib.hid hfin
   clear hfin
   go_enter Tryz.func40, Tryz.ntmps40
   go_wp2_with (first | (go_at_call 72; refine (z0s _ _).mono ?_; rintro e w1 ⟨rfl, rfl⟩) | (go_at_call 28; refine (in_B _ _ _ _).mono ?_; rintro e w1 ⟨rfl, rfl⟩))
   go_ret
   exact ⟨by rw [HF.out]; rfl, (Below.refl _ _).alloc (Nat.le_refl _) _⟩
  ·by_cases hz : f = 0
   ·subst hz
    cases hr : inB t 1 4
    ·skip
     have hfin : z04 4 0 t e y r.data.toList = false := by simp [z04, he, hy, hr]
     have HF := Lib.hid hfin
     clear hfin
     go_enter Tryz.func40, Tryz.ntmps40
     go_wp2_with (first | (go_at_call 72; refine (z0s _ _).mono ?_; rintro e w1 ⟨rfl, rfl⟩) | (go_at_call 28; refine (in_B _ _ _ _).mono ?_; rintro e w1 ⟨rfl, rfl⟩))
     go_ret
     exact ⟨by rw [HF.out]; rfl, (Below.refl _ _).alloc (Nat.le_refl _) _⟩
    ·cases hE : r.toList.isEmpty
     ·have hE2 : r.data.toList.isEmpty = false := by rw [← toList_data]; exact hE
      have hfin : z04 4 0 t e y r.data.toList = false := by simp only [z04, he, hy, hr, hE2]; rfl
      clear hE2
      have HF := Lib.hid hfin
      clear hfin
      go_enter Tryz.func40, Tryz.ntmps40
      go_wp2_with (first | (go_at_call 72; refine (z0s _ _).mono ?_; rintro e w1 ⟨rfl, rfl⟩) | (go_at_call 28; refine (in_B _ _ _ _).mono ?_; rintro e w1 ⟨rfl, rfl⟩))
      go_ret
      exact ⟨by rw [HF.out]; rfl, (Below.refl _ _).alloc (Nat.le_refl _) _⟩
     ·have hE2 : r.data.toList.isEmpty = true := by rw [← toList_data]; exact hE
      have hfin : z04 4 0 t e y r.data.toList = true := by simp only [z04, he, hy, hr, hE2]; rfl
      clear hE2
      have HF := Lib.hid hfin
      clear hfin
      go_enter Tryz.func40, Tryz.ntmps40
      go_wp2_with (first | (go_at_call 72; refine (z0s _ _).mono ?_; rintro e w1 ⟨rfl, rfl⟩) | (go_at_call 28; refine (in_B _ _ _ _).mono ?_; rintro e w1 ⟨rfl, rfl⟩))
      go_ret
      exact ⟨by rw [HF.out]; rfl, (Below.refl _ _).alloc (Nat.le_refl _) _⟩
   ·have hz1 : (f == 0) = false := by simpa using hz
    have hfin : z04 4 f t e y r.data.toList = false := by simp [z04, hz]
    clear hz
    have HF := Lib.hid hfin
    clear hfin
    go_enter Tryz.func40, Tryz.ntmps40
    go_wp2_with (first | (go_at_call 72; refine (z0s _ _).mono ?_; rintro e w1 ⟨rfl, rfl⟩) | (go_at_call 28; refine (in_B _ _ _ _).mono ?_; rintro e w1 ⟨rfl, rfl⟩))
    go_ret
    exact ⟨by rw [HF.out]; rfl, (Below.refl _ _).alloc (Nat.le_refl _) _⟩
theorem zdQ (f t e y : Int) (r : ByteArray) (w : World) :
 Calls Tryz.prog 40 #[.agg #[.int .i64 2, .int .i64 f, .int .i64 t, .int .i64 e, .int .i64 y, .string r]] w fun e' w' => e' = .returned (.bool (z04 2 f t e y r.data.toList)) ∧ Below w.heap.size w w' := by
 cases he : inB e 1 4
 ·skip
  have hfin : z04 2 f t e y r.data.toList = false := by simp [z04, he]
  have HF := Lib.hid hfin
  clear hfin
  go_enter Tryz.func40, Tryz.ntmps40
  go_wp2_with (first | (go_at_call 72; refine (z0s _ _).mono ?_; rintro e w1 ⟨rfl, rfl⟩) | (go_at_call 28; refine (in_B _ _ _ _).mono ?_; rintro e w1 ⟨rfl, rfl⟩))
  go_ret
  exact ⟨by rw [HF.out]; rfl, (Below.refl _ _).alloc (Nat.le_refl _) _⟩
 ·cases hy : inB y 1 1000
  ·skip
   have hfin : z04 2 f t e y r.data.toList = false := by simp [z04, hy]
   have HF := Lib.hid hfin
   clear hfin
   go_enter Tryz.func40, Tryz.ntmps40
   go_wp2_with (first | (go_at_call 72; refine (z0s _ _).mono ?_; rintro e w1 ⟨rfl, rfl⟩) | (go_at_call 28; refine (in_B _ _ _ _).mono ?_; rintro e w1 ⟨rfl, rfl⟩))
   go_ret
   exact ⟨by rw [HF.out]; rfl, (Below.refl _ _).alloc (Nat.le_refl _) _⟩
  ·by_cases hz : t = 0
   ·subst hz
    cases hr : inB f 1 4
    ·skip
     have hfin : z04 2 f 0 e y r.data.toList = false := by simp [z04, he, hy, hr]
     have HF := Lib.hid hfin
     clear hfin
     go_enter Tryz.func40, Tryz.ntmps40
     go_wp2_with (first | (go_at_call 72; refine (z0s _ _).mono ?_; rintro e w1 ⟨rfl, rfl⟩) | (go_at_call 28; refine (in_B _ _ _ _).mono ?_; rintro e w1 ⟨rfl, rfl⟩))
     go_ret
     exact ⟨by rw [HF.out]; rfl, (Below.refl _ _).alloc (Nat.le_refl _) _⟩
    ·by_cases hl : (r.size : Int) = 16
     ·have hl1 : ((r.size : Int) == 16) = true := by simpa using hl
      have hl2 : r.data.toList.length = 16 := by rw [z13]; omega
      have hfin : z04 2 f 0 e y r.data.toList = true := by simp only [z04, he, hy, hr, hl2]; rfl
      clear hl hl2
      have HF := Lib.hid hfin
      clear hfin
      go_enter Tryz.func40, Tryz.ntmps40
      go_wp2_with (first | (go_at_call 72; refine (z0s _ _).mono ?_; rintro e w1 ⟨rfl, rfl⟩) | (go_at_call 28; refine (in_B _ _ _ _).mono ?_; rintro e w1 ⟨rfl, rfl⟩))
      go_ret
      exact ⟨by rw [HF.out]; rfl, (Below.refl _ _).alloc (Nat.le_refl _) _⟩
     ·have hl1 : ((r.size : Int) == 16) = false := by simpa using hl
      have hl2 : (r.data.toList.length == 16) = false := by rw [z13]; simp; omega
      have hfin : z04 2 f 0 e y r.data.toList = false := by simp only [z04, he, hy, hr, hl2]; rfl
      clear hl hl2
      have HF := Lib.hid hfin
      clear hfin
      go_enter Tryz.func40, Tryz.ntmps40
      go_wp2_with (first | (go_at_call 72; refine (z0s _ _).mono ?_; rintro e w1 ⟨rfl, rfl⟩) | (go_at_call 28; refine (in_B _ _ _ _).mono ?_; rintro e w1 ⟨rfl, rfl⟩))
      go_ret
      exact ⟨by rw [HF.out]; rfl, (Below.refl _ _).alloc (Nat.le_refl _) _⟩
   ·have hz1 : (t == 0) = false := by simpa using hz
    have hfin : z04 2 f t e y r.data.toList = false := by simp [z04, hz]
    clear hz
    have HF := Lib.hid hfin
    clear hfin
    go_enter Tryz.func40, Tryz.ntmps40
    go_wp2_with (first | (go_at_call 72; refine (z0s _ _).mono ?_; rintro e w1 ⟨rfl, rfl⟩) | (go_at_call 28; refine (in_B _ _ _ _).mono ?_; rintro e w1 ⟨rfl, rfl⟩))
    go_ret
    exact ⟨by rw [HF.out]; rfl, (Below.refl _ _).alloc (Nat.le_refl _) _⟩
theorem zdR (f t e y : Int) (r : ByteArray) (w : World) :
 Calls Tryz.prog 40 #[.agg #[.int .i64 5, .int .i64 f, .int .i64 t, .int .i64 e, .int .i64 y, .string r]] w fun e' w' => e' = .returned (.bool (z04 5 f t e y r.data.toList)) ∧ Below w.heap.size w w' := by
 cases he : inB e 1 4
 ·skip
  have hfin : z04 5 f t e y r.data.toList = false := by simp [z04, he]
  have HF := Lib.hid hfin
  clear hfin
  go_enter Tryz.func40, Tryz.ntmps40
  go_wp2_with (first | (go_at_call 72; refine (z0s _ _).mono ?_; rintro e w1 ⟨rfl, rfl⟩) | (go_at_call 28; refine (in_B _ _ _ _).mono ?_; rintro e w1 ⟨rfl, rfl⟩))
  go_ret
  exact ⟨by rw [HF.out]; rfl, (Below.refl _ _).alloc (Nat.le_refl _) _⟩
 ·cases hy : inB y 1 1000
  ·skip
   have hfin : z04 5 f t e y r.data.toList = false := by simp [z04, hy]
   have HF := Lib.hid hfin
   clear hfin
   go_enter Tryz.func40, Tryz.ntmps40
   go_wp2_with (first | (go_at_call 72; refine (z0s _ _).mono ?_; rintro e w1 ⟨rfl, rfl⟩) | (go_at_call 28; refine (in_B _ _ _ _).mono ?_; rintro e w1 ⟨rfl, rfl⟩))
   go_ret
   exact ⟨by rw [HF.out]; rfl, (Below.refl _ _).alloc (Nat.le_refl _) _⟩
  ·by_cases hz : t = 0
   ·subst hz
    cases hr : inB f 1 4
    ·skip
     have hfin : z04 5 f 0 e y r.data.toList = false := by simp [z04, he, hy, hr]
     have HF := Lib.hid hfin
     clear hfin
     go_enter Tryz.func40, Tryz.ntmps40
     go_wp2_with (first | (go_at_call 72; refine (z0s _ _).mono ?_; rintro e w1 ⟨rfl, rfl⟩) | (go_at_call 28; refine (in_B _ _ _ _).mono ?_; rintro e w1 ⟨rfl, rfl⟩))
     go_ret
     exact ⟨by rw [HF.out]; rfl, (Below.refl _ _).alloc (Nat.le_refl _) _⟩
    ·cases hE : r.toList.isEmpty
     ·have hE2 : r.data.toList.isEmpty = false := by rw [← toList_data]; exact hE
      have hfin : z04 5 f 0 e y r.data.toList = false := by simp only [z04, he, hy, hr, hE2]; rfl
      clear hE2
      have HF := Lib.hid hfin
      clear hfin
      go_enter Tryz.func40, Tryz.ntmps40
      go_wp2_with (first | (go_at_call 72; refine (z0s _ _).mono ?_; rintro e w1 ⟨rfl, rfl⟩) | (go_at_call 28; refine (in_B _ _ _ _).mono ?_; rintro e w1 ⟨rfl, rfl⟩))
      go_ret
      exact ⟨by rw [HF.out]; rfl, (Below.refl _ _).alloc (Nat.le_refl _) _⟩
     ·have hE2 : r.data.toList.isEmpty = true := by rw [← toList_data]; exact hE
      have hfin : z04 5 f 0 e y r.data.toList = true := by simp only [z04, he, hy, hr, hE2]; rfl
      clear hE2
      have HF := Lib.hid hfin
      clear hfin
      go_enter Tryz.func40, Tryz.ntmps40
      go_wp2_with (first | (go_at_call 72; refine (z0s _ _).mono ?_; rintro e w1 ⟨rfl, rfl⟩) | (go_at_call 28; refine (in_B _ _ _ _).mono ?_; rintro e w1 ⟨rfl, rfl⟩))
      go_ret
      exact ⟨by rw [HF.out]; rfl, (Below.refl _ _).alloc (Nat.le_refl _) _⟩
   ·have hz1 : (t == 0) = false := by simpa using hz
    have hfin : z04 5 f t e y r.data.toList = false := by simp [z04, hz]
    clear hz
    have HF := Lib.hid hfin
    clear hfin
    go_enter Tryz.func40, Tryz.ntmps40
    go_wp2_with (first | (go_at_call 72; refine (z0s _ _).mono ?_; rintro e w1 ⟨rfl, rfl⟩) | (go_at_call 28; refine (in_B _ _ _ _).mono ?_; rintro e w1 ⟨rfl, rfl⟩))
    go_ret
    exact ⟨by rw [HF.out]; rfl, (Below.refl _ _).alloc (Nat.le_refl _) _⟩
theorem z72 (k f t e y : Int) (r : ByteArray) (w : World) (hk : ¬ (1 ≤ k ∧ k ≤ 5)) :
 Calls Tryz.prog 40 #[.agg #[.int .i64 k, .int .i64 f, .int .i64 t, .int .i64 e, .int .i64 y, .string r]] w fun e' w' => e' = .returned (.bool (z04 k f t e y r.data.toList)) ∧ Below w.heap.size w w' := by
 have hfin : z04 k f t e y r.data.toList = false := by
  have h1 : ¬ (k = 1 ∨ k = 3 ∨ k = 4) := by omega
  have h2 : ¬ k = 2 := by omega
  have h5 : ¬ k = 5 := by omega
  simp [z04, h1, h2, h5]
 have k1 : (k == 1) = false := by simp; omega
 have k3 : (k == 3) = false := by simp; omega
 have k4 : (k == 4) = false := by simp; omega
 have k2 : (k == 2) = false := by simp; omega
 have k5 : (k == 5) = false := by simp; omega
 have HF := Lib.hid hfin
 clear hfin
 clear hk
 cases he : inB e 1 4
 ·skip
  go_enter Tryz.func40, Tryz.ntmps40
  go_wp2_with (first | (go_at_call 72; refine (z0s _ _).mono ?_; rintro e w1 ⟨rfl, rfl⟩) | (go_at_call 28; refine (in_B _ _ _ _).mono ?_; rintro e w1 ⟨rfl, rfl⟩))
  go_ret
  exact ⟨by rw [HF.out]; rfl, (Below.refl _ _).alloc (Nat.le_refl _) _⟩
 ·cases hy : inB y 1 1000
  all_goals
   go_enter Tryz.func40, Tryz.ntmps40
   go_wp2_with (first | (go_at_call 72; refine (z0s _ _).mono ?_; rintro e w1 ⟨rfl, rfl⟩) | (go_at_call 28; refine (in_B _ _ _ _).mono ?_; rintro e w1 ⟨rfl, rfl⟩))
   go_ret
   exact ⟨by rw [HF.out]; rfl, (Below.refl _ _).alloc (Nat.le_refl _) _⟩
theorem zac (k f t e y : Int) (r : ByteArray) (w : World) :
 Calls Tryz.prog 40 #[.agg #[.int .i64 k, .int .i64 f, .int .i64 t, .int .i64 e, .int .i64 y, .string r]] w fun e' w' => e' = .returned (.bool (z04 k f t e y r.data.toList)) ∧ Below w.heap.size w w' := by
 by_cases hk : 1 ≤ k ∧ k ≤ 5
 ·rcases (show k = 1 ∨ k = 2 ∨ k = 3 ∨ k = 4 ∨ k = 5 from by omega) with rfl | rfl | rfl | rfl | rfl
  ·exact zdN f t e y r w
  ·exact zdQ f t e y r w
  ·exact zdO f t e y r w
  ·exact zdP f t e y r w
  ·exact zdR f t e y r w
 ·exact z72 k f t e y r w hk
theorem zbj (f t e y : Int) (r : ByteArray) (w : World) :
 Calls Tryz.prog 97 #[.agg #[.int .i64 1, .int .i64 f, .int .i64 t, .int .i64 e, .int .i64 y, .string r]] w fun e' w' => e' = .returned (.bool (z04 1 f t e y r.data.toList)) ∧ Below w.heap.size w w' := by
 have hk5 : inB 1 1 5 = true := rfl
 cases he : inB e 1 4
 ·skip
  have hfin : z04 1 f t e y r.data.toList = false := by simp [z04, he]
  have HF := Lib.hid hfin
  clear hfin
  go_enter Tryz.func97, Tryz.ntmps97
  go_wp2_with (go_at_call 42; refine (z1v _ _ _ _).mono ?_; rintro e w1 ⟨rfl, rfl⟩)
  go_ret
  exact ⟨by rw [HF.out]; rfl, (Below.refl _ _).alloc (Nat.le_refl _) _⟩
 ·cases hy : inB y 1 1000
  ·skip
   have hfin : z04 1 f t e y r.data.toList = false := by simp [z04, hy]
   have HF := Lib.hid hfin
   clear hfin
   go_enter Tryz.func97, Tryz.ntmps97
   go_wp2_with (go_at_call 42; refine (z1v _ _ _ _).mono ?_; rintro e w1 ⟨rfl, rfl⟩)
   go_ret
   exact ⟨by rw [HF.out]; rfl, (Below.refl _ _).alloc (Nat.le_refl _) _⟩
  ·by_cases hz : f = 0
   ·subst hz
    cases hr : inB t 1 4
    ·skip
     have hfin : z04 1 0 t e y r.data.toList = false := by simp [z04, he, hy, hr]
     have HF := Lib.hid hfin
     clear hfin
     go_enter Tryz.func97, Tryz.ntmps97
     go_wp2_with (go_at_call 42; refine (z1v _ _ _ _).mono ?_; rintro e w1 ⟨rfl, rfl⟩)
     go_ret
     exact ⟨by rw [HF.out]; rfl, (Below.refl _ _).alloc (Nat.le_refl _) _⟩
    ·cases hE : r.toList.isEmpty
     ·have hE2 : r.data.toList.isEmpty = false := by rw [← toList_data]; exact hE
      have hfin : z04 1 0 t e y r.data.toList = false := by simp only [z04, he, hy, hr, hE2]; rfl
      clear hE2
      have HF := Lib.hid hfin
      clear hfin
      go_enter Tryz.func97, Tryz.ntmps97
      go_wp2_with (go_at_call 42; refine (z1v _ _ _ _).mono ?_; rintro e w1 ⟨rfl, rfl⟩)
      go_ret
      exact ⟨by rw [HF.out]; rfl, (Below.refl _ _).alloc (Nat.le_refl _) _⟩
     ·have hE2 : r.data.toList.isEmpty = true := by rw [← toList_data]; exact hE
      have hfin : z04 1 0 t e y r.data.toList = true := by simp only [z04, he, hy, hr, hE2]; rfl
      clear hE2
      have HF := Lib.hid hfin
      clear hfin
      go_enter Tryz.func97, Tryz.ntmps97
      go_wp2_with (go_at_call 42; refine (z1v _ _ _ _).mono ?_; rintro e w1 ⟨rfl, rfl⟩)
      go_ret
      exact ⟨by rw [HF.out]; rfl, (Below.refl _ _).alloc (Nat.le_refl _) _⟩
   ·have hz1 : (f == 0) = false := by simpa using hz
    have hz2 : (f != 0) = true := by simpa using hz
    have hfin : z04 1 f t e y r.data.toList = false := by simp [z04, hz]
    clear hz
    have HF := Lib.hid hfin
    clear hfin
    go_enter Tryz.func97, Tryz.ntmps97
    go_wp2_with (go_at_call 42; refine (z1v _ _ _ _).mono ?_; rintro e w1 ⟨rfl, rfl⟩)
    go_ret
    exact ⟨by rw [HF.out]; rfl, (Below.refl _ _).alloc (Nat.le_refl _) _⟩
theorem zbk (f t e y : Int) (r : ByteArray) (w : World) :
 Calls Tryz.prog 97 #[.agg #[.int .i64 3, .int .i64 f, .int .i64 t, .int .i64 e, .int .i64 y, .string r]] w fun e' w' => e' = .returned (.bool (z04 3 f t e y r.data.toList)) ∧ Below w.heap.size w w' := by
 have hk5 : inB 3 1 5 = true := rfl
 cases he : inB e 1 4
 ·skip
  have hfin : z04 3 f t e y r.data.toList = false := by simp [z04, he]
  have HF := Lib.hid hfin
  clear hfin
  go_enter Tryz.func97, Tryz.ntmps97
  go_wp2_with (go_at_call 42; refine (z1v _ _ _ _).mono ?_; rintro e w1 ⟨rfl, rfl⟩)
  go_ret
  exact ⟨by rw [HF.out]; rfl, (Below.refl _ _).alloc (Nat.le_refl _) _⟩
 ·cases hy : inB y 1 1000
  ·skip
   have hfin : z04 3 f t e y r.data.toList = false := by simp [z04, hy]
   have HF := Lib.hid hfin
   clear hfin
   go_enter Tryz.func97, Tryz.ntmps97
   go_wp2_with (go_at_call 42; refine (z1v _ _ _ _).mono ?_; rintro e w1 ⟨rfl, rfl⟩)
   go_ret
   exact ⟨by rw [HF.out]; rfl, (Below.refl _ _).alloc (Nat.le_refl _) _⟩
  ·by_cases hz : f = 0
   ·subst hz
    cases hr : inB t 1 4
    ·skip
     have hfin : z04 3 0 t e y r.data.toList = false := by simp [z04, he, hy, hr]
     have HF := Lib.hid hfin
     clear hfin
     go_enter Tryz.func97, Tryz.ntmps97
     go_wp2_with (go_at_call 42; refine (z1v _ _ _ _).mono ?_; rintro e w1 ⟨rfl, rfl⟩)
     go_ret
     exact ⟨by rw [HF.out]; rfl, (Below.refl _ _).alloc (Nat.le_refl _) _⟩
    ·cases hE : r.toList.isEmpty
     ·have hE2 : r.data.toList.isEmpty = false := by rw [← toList_data]; exact hE
      have hfin : z04 3 0 t e y r.data.toList = false := by simp only [z04, he, hy, hr, hE2]; rfl
      clear hE2
      have HF := Lib.hid hfin
      clear hfin
      go_enter Tryz.func97, Tryz.ntmps97
      go_wp2_with (go_at_call 42; refine (z1v _ _ _ _).mono ?_; rintro e w1 ⟨rfl, rfl⟩)
      go_ret
      exact ⟨by rw [HF.out]; rfl, (Below.refl _ _).alloc (Nat.le_refl _) _⟩
     ·have hE2 : r.data.toList.isEmpty = true := by rw [← toList_data]; exact hE
      have hfin : z04 3 0 t e y r.data.toList = true := by simp only [z04, he, hy, hr, hE2]; rfl
      clear hE2
      have HF := Lib.hid hfin
      clear hfin
      go_enter Tryz.func97, Tryz.ntmps97
      go_wp2_with (go_at_call 42; refine (z1v _ _ _ _).mono ?_; rintro e w1 ⟨rfl, rfl⟩)
      go_ret
      exact ⟨by rw [HF.out]; rfl, (Below.refl _ _).alloc (Nat.le_refl _) _⟩
   ·have hz1 : (f == 0) = false := by simpa using hz
    have hz2 : (f != 0) = true := by simpa using hz
    have hfin : z04 3 f t e y r.data.toList = false := by simp [z04, hz]
    clear hz
    have HF := Lib.hid hfin
    clear hfin
    go_enter Tryz.func97, Tryz.ntmps97
    go_wp2_with (go_at_call 42; refine (z1v _ _ _ _).mono ?_; rintro e w1 ⟨rfl, rfl⟩)
    go_ret
    exact ⟨by rw [HF.out]; rfl, (Below.refl _ _).alloc (Nat.le_refl _) _⟩
theorem zbl (f t e y : Int) (r : ByteArray) (w : World) :
 Calls Tryz.prog 97 #[.agg #[.int .i64 4, .int .i64 f, .int .i64 t, .int .i64 e, .int .i64 y, .string r]] w fun e' w' => e' = .returned (.bool (z04 4 f t e y r.data.toList)) ∧ Below w.heap.size w w' := by
 have hk5 : inB 4 1 5 = true := rfl
 cases he : inB e 1 4
 ·skip
  have hfin : z04 4 f t e y r.data.toList = false := by simp [z04, he]
  have HF := Lib.hid hfin
  clear hfin
  go_enter Tryz.func97, Tryz.ntmps97
  go_wp2_with (go_at_call 42; refine (z1v _ _ _ _).mono ?_; rintro e w1 ⟨rfl, rfl⟩)
  go_ret
  exact ⟨by rw [HF.out]; rfl, (Below.refl _ _).alloc (Nat.le_refl _) _⟩
 ·cases hy : inB y 1 1000
  ·skip
   have hfin : z04 4 f t e y r.data.toList = false := by simp [z04, hy]
   have HF := Lib.hid hfin
   clear hfin
   go_enter Tryz.func97, Tryz.ntmps97
   go_wp2_with (go_at_call 42; refine (z1v _ _ _ _).mono ?_; rintro e w1 ⟨rfl, rfl⟩)
   go_ret
   exact ⟨by rw [HF.out]; rfl, (Below.refl _ _).alloc (Nat.le_refl _) _⟩
  ·by_cases hz : f = 0
   ·subst hz
    cases hr : inB t 1 4
    ·skip
     have hfin : z04 4 0 t e y r.data.toList = false := by simp [z04, he, hy, hr]
     have HF := Lib.hid hfin
     clear hfin
     go_enter Tryz.func97, Tryz.ntmps97
     go_wp2_with (go_at_call 42; refine (z1v _ _ _ _).mono ?_; rintro e w1 ⟨rfl, rfl⟩)
     go_ret
     exact ⟨by rw [HF.out]; rfl, (Below.refl _ _).alloc (Nat.le_refl _) _⟩
    ·cases hE : r.toList.isEmpty
     ·have hE2 : r.data.toList.isEmpty = false := by rw [← toList_data]; exact hE
      have hfin : z04 4 0 t e y r.data.toList = false := by simp only [z04, he, hy, hr, hE2]; rfl
      clear hE2
      have HF := Lib.hid hfin
      clear hfin
      go_enter Tryz.func97, Tryz.ntmps97
      go_wp2_with (go_at_call 42; refine (z1v _ _ _ _).mono ?_; rintro e w1 ⟨rfl, rfl⟩)
      go_ret
      exact ⟨by rw [HF.out]; rfl, (Below.refl _ _).alloc (Nat.le_refl _) _⟩
     ·have hE2 : r.data.toList.isEmpty = true := by rw [← toList_data]; exact hE
      have hfin : z04 4 0 t e y r.data.toList = true := by simp only [z04, he, hy, hr, hE2]; rfl
      clear hE2
      have HF := Lib.hid hfin
      clear hfin
      go_enter Tryz.func97, Tryz.ntmps97
      go_wp2_with (go_at_call 42; refine (z1v _ _ _ _).mono ?_; rintro e w1 ⟨rfl, rfl⟩)
      go_ret
      exact ⟨by rw [HF.out]; rfl, (Below.refl _ _).alloc (Nat.le_refl _) _⟩
   ·have hz1 : (f == 0) = false := by simpa using hz
    have hz2 : (f != 0) = true := by simpa using hz
    have hfin : z04 4 f t e y r.data.toList = false := by simp [z04, hz]
    clear hz
    have HF := Lib.hid hfin
    clear hfin
    go_enter Tryz.func97, Tryz.ntmps97
    go_wp2_with (go_at_call 42; refine (z1v _ _ _ _).mono ?_; rintro e w1 ⟨rfl, rfl⟩)
    go_ret
    exact ⟨by rw [HF.out]; rfl, (Below.refl _ _).alloc (Nat.le_refl _) _⟩
theorem zbm (f t e y : Int) (r : ByteArray) (w : World) :
 Calls Tryz.prog 97 #[.agg #[.int .i64 2, .int .i64 f, .int .i64 t, .int .i64 e, .int .i64 y, .string r]] w fun e' w' => e' = .returned (.bool (z04 2 f t e y r.data.toList)) ∧ Below w.heap.size w w' := by
 have hk5 : inB 2 1 5 = true := rfl
 cases he : inB e 1 4
 ·skip
  have hfin : z04 2 f t e y r.data.toList = false := by simp [z04, he]
  have HF := Lib.hid hfin
  clear hfin
  go_enter Tryz.func97, Tryz.ntmps97
  go_wp2_with (go_at_call 42; refine (z1v _ _ _ _).mono ?_; rintro e w1 ⟨rfl, rfl⟩)
  go_ret
  exact ⟨by rw [HF.out]; rfl, (Below.refl _ _).alloc (Nat.le_refl _) _⟩
 ·cases hy : inB y 1 1000
  ·skip
   have hfin : z04 2 f t e y r.data.toList = false := by simp [z04, hy]
   have HF := Lib.hid hfin
   clear hfin
   go_enter Tryz.func97, Tryz.ntmps97
   go_wp2_with (go_at_call 42; refine (z1v _ _ _ _).mono ?_; rintro e w1 ⟨rfl, rfl⟩)
   go_ret
   exact ⟨by rw [HF.out]; rfl, (Below.refl _ _).alloc (Nat.le_refl _) _⟩
  ·by_cases hz : t = 0
   ·subst hz
    cases hr : inB f 1 4
    ·skip
     have hfin : z04 2 f 0 e y r.data.toList = false := by simp [z04, he, hy, hr]
     have HF := Lib.hid hfin
     clear hfin
     go_enter Tryz.func97, Tryz.ntmps97
     go_wp2_with (go_at_call 42; refine (z1v _ _ _ _).mono ?_; rintro e w1 ⟨rfl, rfl⟩)
     go_ret
     exact ⟨by rw [HF.out]; rfl, (Below.refl _ _).alloc (Nat.le_refl _) _⟩
    ·by_cases hl : (r.size : Int) = 16
     ·have hl1 : ((r.size : Int) == 16) = true := by simpa using hl
      have hl2 : r.data.toList.length = 16 := by rw [z13]; omega
      have hfin : z04 2 f 0 e y r.data.toList = true := by simp only [z04, he, hy, hr, hl2]; rfl
      clear hl hl2
      have HF := Lib.hid hfin
      clear hfin
      go_enter Tryz.func97, Tryz.ntmps97
      go_wp2_with (go_at_call 42; refine (z1v _ _ _ _).mono ?_; rintro e w1 ⟨rfl, rfl⟩)
      go_ret
      exact ⟨by rw [HF.out]; rfl, (Below.refl _ _).alloc (Nat.le_refl _) _⟩
     ·have hl1 : ((r.size : Int) == 16) = false := by simpa using hl
      have hl2 : (r.data.toList.length == 16) = false := by rw [z13]; simp; omega
      have hfin : z04 2 f 0 e y r.data.toList = false := by simp only [z04, he, hy, hr, hl2]; rfl
      clear hl hl2
      have HF := Lib.hid hfin
      clear hfin
      go_enter Tryz.func97, Tryz.ntmps97
      go_wp2_with (go_at_call 42; refine (z1v _ _ _ _).mono ?_; rintro e w1 ⟨rfl, rfl⟩)
      go_ret
      exact ⟨by rw [HF.out]; rfl, (Below.refl _ _).alloc (Nat.le_refl _) _⟩
   ·have hz1 : (t == 0) = false := by simpa using hz
    have hz2 : (t != 0) = true := by simpa using hz
    have hfin : z04 2 f t e y r.data.toList = false := by simp [z04, hz]
    clear hz
    have HF := Lib.hid hfin
    clear hfin
    go_enter Tryz.func97, Tryz.ntmps97
    go_wp2_with (go_at_call 42; refine (z1v _ _ _ _).mono ?_; rintro e w1 ⟨rfl, rfl⟩)
    go_ret
    exact ⟨by rw [HF.out]; rfl, (Below.refl _ _).alloc (Nat.le_refl _) _⟩
theorem zbn (f t e y : Int) (r : ByteArray) (w : World) :
 Calls Tryz.prog 97 #[.agg #[.int .i64 5, .int .i64 f, .int .i64 t, .int .i64 e, .int .i64 y, .string r]] w fun e' w' => e' = .returned (.bool (z04 5 f t e y r.data.toList)) ∧ Below w.heap.size w w' := by
 have hk5 : inB 5 1 5 = true := rfl
 cases he : inB e 1 4
 ·skip
  have hfin : z04 5 f t e y r.data.toList = false := by simp [z04, he]
  have HF := Lib.hid hfin
  clear hfin
  go_enter Tryz.func97, Tryz.ntmps97
  go_wp2_with (go_at_call 42; refine (z1v _ _ _ _).mono ?_; rintro e w1 ⟨rfl, rfl⟩)
  go_ret
  exact ⟨by rw [HF.out]; rfl, (Below.refl _ _).alloc (Nat.le_refl _) _⟩
 ·cases hy : inB y 1 1000
  ·skip
   have hfin : z04 5 f t e y r.data.toList = false := by simp [z04, hy]
   have HF := Lib.hid hfin
   clear hfin
   go_enter Tryz.func97, Tryz.ntmps97
   go_wp2_with (go_at_call 42; refine (z1v _ _ _ _).mono ?_; rintro e w1 ⟨rfl, rfl⟩)
   go_ret
   exact ⟨by rw [HF.out]; rfl, (Below.refl _ _).alloc (Nat.le_refl _) _⟩
  ·by_cases hz : t = 0
   ·subst hz
    cases hr : inB f 1 4
    ·skip
     have hfin : z04 5 f 0 e y r.data.toList = false := by simp [z04, he, hy, hr]
     have HF := Lib.hid hfin
     clear hfin
     go_enter Tryz.func97, Tryz.ntmps97
     go_wp2_with (go_at_call 42; refine (z1v _ _ _ _).mono ?_; rintro e w1 ⟨rfl, rfl⟩)
     go_ret
     exact ⟨by rw [HF.out]; rfl, (Below.refl _ _).alloc (Nat.le_refl _) _⟩
    ·cases hE : r.toList.isEmpty
     ·have hE2 : r.data.toList.isEmpty = false := by rw [← toList_data]; exact hE
      have hfin : z04 5 f 0 e y r.data.toList = false := by simp only [z04, he, hy, hr, hE2]; rfl
      clear hE2
      have HF := Lib.hid hfin
      clear hfin
      go_enter Tryz.func97, Tryz.ntmps97
      go_wp2_with (go_at_call 42; refine (z1v _ _ _ _).mono ?_; rintro e w1 ⟨rfl, rfl⟩)
      go_ret
      exact ⟨by rw [HF.out]; rfl, (Below.refl _ _).alloc (Nat.le_refl _) _⟩
     ·have hE2 : r.data.toList.isEmpty = true := by rw [← toList_data]; exact hE
      have hfin : z04 5 f 0 e y r.data.toList = true := by simp only [z04, he, hy, hr, hE2]; rfl
      clear hE2
      have HF := Lib.hid hfin
      clear hfin
      go_enter Tryz.func97, Tryz.ntmps97
      go_wp2_with (go_at_call 42; refine (z1v _ _ _ _).mono ?_; rintro e w1 ⟨rfl, rfl⟩)
      go_ret
      exact ⟨by rw [HF.out]; rfl, (Below.refl _ _).alloc (Nat.le_refl _) _⟩
   ·have hz1 : (t == 0) = false := by simpa using hz
    have hz2 : (t != 0) = true := by simpa using hz
    have hfin : z04 5 f t e y r.data.toList = false := by simp [z04, hz]
    clear hz
    have HF := Lib.hid hfin
    clear hfin
    go_enter Tryz.func97, Tryz.ntmps97
    go_wp2_with (go_at_call 42; refine (z1v _ _ _ _).mono ?_; rintro e w1 ⟨rfl, rfl⟩)
    go_ret
    exact ⟨by rw [HF.out]; rfl, (Below.refl _ _).alloc (Nat.le_refl _) _⟩
theorem z6M (k f t e y : Int) (r : ByteArray) (w : World) (hk : ¬ (1 ≤ k ∧ k ≤ 5)) :
 Calls Tryz.prog 97 #[.agg #[.int .i64 k, .int .i64 f, .int .i64 t, .int .i64 e, .int .i64 y, .string r]] w fun e' w' => e' = .returned (.bool (z04 k f t e y r.data.toList)) ∧ Below w.heap.size w w' := by
 have hfin : z04 k f t e y r.data.toList = false := by
  have h1 : ¬ (k = 1 ∨ k = 3 ∨ k = 4) := by omega
  have h2 : ¬ k = 2 := by omega
  have h5 : ¬ k = 5 := by omega
  simp [z04, h1, h2, h5]
 have hk5 : inB k 1 5 = false := by simp only [inB, Bool.and_eq_false_iff, decide_eq_false_iff_not]; omega
 have HF := Lib.hid hfin
 clear hfin
 clear hk
 go_enter Tryz.func97, Tryz.ntmps97
 go_wp2_with (go_at_call 42; refine (z1v _ _ _ _).mono ?_; rintro e w1 ⟨rfl, rfl⟩)
 go_ret
 exact ⟨by rw [HF.out]; rfl, (Below.refl _ _).alloc (Nat.le_refl _) _⟩
theorem z8U (k f t e y : Int) (r : ByteArray) (w : World) :
 Calls Tryz.prog 97 #[.agg #[.int .i64 k, .int .i64 f, .int .i64 t, .int .i64 e, .int .i64 y, .string r]] w fun e' w' => e' = .returned (.bool (z04 k f t e y r.data.toList)) ∧ Below w.heap.size w w' := by
 by_cases hk : 1 ≤ k ∧ k ≤ 5
 ·rcases (show k = 1 ∨ k = 2 ∨ k = 3 ∨ k = 4 ∨ k = 5 from by omega) with rfl | rfl | rfl | rfl | rfl
  ·exact zbj f t e y r w
  ·exact zbm f t e y r w
  ·exact zbk f t e y r w
  ·exact zbl f t e y r w
  ·exact zbn f t e y r w
 ·exact z6M k f t e y r w hk
end Go.Proofs.YtkjjacndfieeoaaGreatDoor
namespace Go.Proofs.YtkjjacndfieeoaaGreatDoor
set_option linter.unusedVariables false
set_option linter.unusedSimpArgs false
set_option linter.unusedSectionVars false
open Go.RowKit Pl
end Go.Proofs.YtkjjacndfieeoaaGreatDoor
namespace Go.Proofs.YtkjjacndfieeoaaGreatDoor
set_option linter.unusedVariables false
set_option linter.unusedSimpArgs false
set_option linter.unusedSectionVars false
open Go.RowKit Pl
def us2 (t : Bs) : Bs × Bool := match zgM t with
 | none => ([], false)
 | some s => (s, true)
end Go.Proofs.YtkjjacndfieeoaaGreatDoor
namespace Go.Proofs.YtkjjacndfieeoaaGreatDoor
set_option linter.unusedVariables false
set_option linter.unusedSimpArgs false
set_option linter.unusedSectionVars false
open Go.RowKit Pl
end Go.Proofs.YtkjjacndfieeoaaGreatDoor
