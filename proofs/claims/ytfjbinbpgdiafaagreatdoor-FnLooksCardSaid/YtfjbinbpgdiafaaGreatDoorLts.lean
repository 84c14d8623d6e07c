/- Letters: the tests and the texts of both sides. Letters: sealing, and the bytes of a letter, both sides. Letters: ReadLetter, both sides. Letters: the reference ReadLetter. -/
import Derived.Test.YtfjbinbpgdiafaaGreatDoorOld
import Derived.Test.YtfjbinbpgdiafaaGreatDoorWa
import Derived.Test.YtfjbinbpgdiafaaGreatDoorPlainM
import Derived.Test.YtfjbinbpgdiafaaGreatDoorHeld
namespace Go.Proofs.YtfjbinbpgdiafaaGreatDoor
set_option maxRecDepth 100000
set_option maxHeartbeats 1000000
set_option linter.unusedVariables false
set_option linter.unusedSimpArgs false
set_option linter.unusedSectionVars false
open Go.RowKit Pl
theorem z1C (n lo hi : Int) (w : World) :
 Calls Tryz.prog 39 #[.int .i64 n, .int .i64 lo, .int .i64 hi] w fun e w' => e = .returned (.bool (inB n lo hi)) ∧ w = w' := by
 by_cases h : lo ≤ n ∧ n ≤ hi
 ·rw [show inB n lo hi = true by simp [inB, h]]; exact z3O n lo hi w h.1 h.2
 ·rw [show inB n lo hi = false by simp only [inB, Bool.and_eq_false_iff, decide_eq_false_iff_not]; omega]; exact zb3 n lo hi w h
theorem zag (f t e y : Int) (r : ByteArray) (w : World) :
 Calls Tryz.prog 155 #[.agg #[.int .i64 1, .int .i64 f, .int .i64 t, .int .i64 e, .int .i64 y, .string r]] w fun e' w' => e' = .returned (.bool (z0a 1 f t e y r.data.toList)) ∧ Below w.heap.size w w' := by
 have hk5 : inB 1 1 5 = true := rfl
 cases he : inB e 1 4
 ·skip
  have hfin : z0a 1 f t e y r.data.toList = false := by simp [z0a, he]
  have HF := Lib.hid hfin
  clear hfin
  go_enter Tryz.func155, Tryz.ntmps155
  go_wp2_with (go_at_call 39; refine (z1C _ _ _ _).mono ?_; rintro e w1 ⟨rfl, rfl⟩)
  go_ret
  exact ⟨by rw [HF.out]; rfl, (Below.refl _ _).alloc (Nat.le_refl _) _⟩
 ·cases hy : inB y 1 1000
  ·skip
   have hfin : z0a 1 f t e y r.data.toList = false := by simp [z0a, hy]
   have HF := Lib.hid hfin
   clear hfin
   go_enter Tryz.func155, Tryz.ntmps155
   go_wp2_with (go_at_call 39; refine (z1C _ _ _ _).mono ?_; rintro e w1 ⟨rfl, rfl⟩)
   go_ret
   exact ⟨by rw [HF.out]; rfl, (Below.refl _ _).alloc (Nat.le_refl _) _⟩
  ·by_cases hz : f = 0
   ·subst hz
    cases hr : inB t 1 4
    ·skip
     have hfin : z0a 1 0 t e y r.data.toList = false := by simp [z0a, he, hy, hr]
     have HF := Lib.hid hfin
     clear hfin
     go_enter Tryz.func155, Tryz.ntmps155
     go_wp2_with (go_at_call 39; refine (z1C _ _ _ _).mono ?_; rintro e w1 ⟨rfl, rfl⟩)
     go_ret
     exact ⟨by rw [HF.out]; rfl, (Below.refl _ _).alloc (Nat.le_refl _) _⟩
    ·cases hE : r.toList.isEmpty
     ·have hE2 : r.data.toList.isEmpty = false := by rw [← toList_data]; exact hE
      have hfin : z0a 1 0 t e y r.data.toList = false := by simp only [z0a, he, hy, hr, hE2]; rfl
      clear hE2
      have HF := Lib.hid hfin
      clear hfin
      go_enter Tryz.func155, Tryz.ntmps155
      go_wp2_with (go_at_call 39; refine (z1C _ _ _ _).mono ?_; rintro e w1 ⟨rfl, rfl⟩)
      go_ret
      exact ⟨by rw [HF.out]; rfl, (Below.refl _ _).alloc (Nat.le_refl _) _⟩
     ·have hE2 : r.data.toList.isEmpty = true := by rw [← toList_data]; exact hE
      have hfin : z0a 1 0 t e y r.data.toList = true := by simp only [z0a, he, hy, hr, hE2]; rfl
      clear hE2
      have HF := Lib.hid hfin
      clear hfin
      go_enter Tryz.func155, Tryz.ntmps155
      go_wp2_with (go_at_call 39; refine (z1C _ _ _ _).mono ?_; rintro e w1 ⟨rfl, rfl⟩)
      go_ret
      exact ⟨by rw [HF.out]; rfl, (Below.refl _ _).alloc (Nat.le_refl _) _⟩
   ·have hz1 : (f == 0) = false := by simpa using hz
    have hz2 : (f != 0) = true := by simpa using hz
    have hfin : z0a 1 f t e y r.data.toList = false := by simp [z0a, hz]
    clear hz
    have HF := Lib.hid hfin
    clear hfin
    go_enter Tryz.func155, Tryz.ntmps155
    go_wp2_with (go_at_call 39; refine (z1C _ _ _ _).mono ?_; rintro e w1 ⟨rfl, rfl⟩)
    go_ret
    exact ⟨by rw [HF.out]; rfl, (Below.refl _ _).alloc (Nat.le_refl _) _⟩
theorem zah (f t e y : Int) (r : ByteArray) (w : World) :
 Calls Tryz.prog 155 #[.agg #[.int .i64 3, .int .i64 f, .int .i64 t, .int .i64 e, .int .i64 y, .string r]] w fun e' w' => e' = .returned (.bool (z0a 3 f t e y r.data.toList)) ∧ Below w.heap.size w w' := by
 have hk5 : inB 3 1 5 = true := rfl
 cases he : inB e 1 4
 ·skip
  have hfin : z0a 3 f t e y r.data.toList = false := by simp [z0a, he]
  have HF := Lib.hid hfin
  clear hfin
  go_enter Tryz.func155, Tryz.ntmps155
  go_wp2_with (go_at_call 39; refine (z1C _ _ _ _).mono ?_; rintro e w1 ⟨rfl, rfl⟩)
  go_ret
  exact ⟨by rw [HF.out]; rfl, (Below.refl _ _).alloc (Nat.le_refl _) _⟩
 ·cases hy : inB y 1 1000
  ·skip
   have hfin : z0a 3 f t e y r.data.toList = false := by simp [z0a, hy]
   have HF := Lib.hid hfin
   clear hfin
   go_enter Tryz.func155, Tryz.ntmps155
   go_wp2_with (go_at_call 39; refine (z1C _ _ _ _).mono ?_; rintro e w1 ⟨rfl, rfl⟩)
   go_ret
   exact ⟨by rw [HF.out]; rfl, (Below.refl _ _).alloc (Nat.le_refl _) _⟩
  ·by_cases hz : f = 0
   ·subst hz
    cases hr : inB t 1 4
    ·skip
     have hfin : z0a 3 0 t e y r.data.toList = false := by simp [z0a, he, hy, hr]
     have HF := Lib.hid hfin
     clear hfin
     go_enter Tryz.func155, Tryz.ntmps155
     go_wp2_with (go_at_call 39; refine (z1C _ _ _ _).mono ?_; rintro e w1 ⟨rfl, rfl⟩)
     go_ret
     exact ⟨by rw [HF.out]; rfl, (Below.refl _ _).alloc (Nat.le_refl _) _⟩
    ·cases hE : r.toList.isEmpty
     ·have hE2 : r.data.toList.isEmpty = false := by rw [← toList_data]; exact hE
      have hfin : z0a 3 0 t e y r.data.toList = false := by simp only [z0a, he, hy, hr, hE2]; rfl
      clear hE2
      have HF := Lib.hid hfin
      clear hfin
      go_enter Tryz.func155, Tryz.ntmps155
      go_wp2_with (go_at_call 39; refine (z1C _ _ _ _).mono ?_; rintro e w1 ⟨rfl, rfl⟩)
      go_ret
      exact ⟨by rw [HF.out]; rfl, (Below.refl _ _).alloc (Nat.le_refl _) _⟩
     ·have hE2 : r.data.toList.isEmpty = true := by rw [← toList_data]; exact hE
      have hfin : z0a 3 0 t e y r.data.toList = true := by simp only [z0a, he, hy, hr, hE2]; rfl
      clear hE2
      have HF := Lib.hid hfin
      clear hfin
      go_enter Tryz.func155, Tryz.ntmps155
      go_wp2_with (go_at_call 39; refine (z1C _ _ _ _).mono ?_; rintro e w1 ⟨rfl, rfl⟩)
      go_ret
      exact ⟨by rw [HF.out]; rfl, (Below.refl _ _).alloc (Nat.le_refl _) _⟩
   ·have hz1 : (f == 0) = false := by simpa using hz
    have hz2 : (f != 0) = true := by simpa using hz
    have hfin : z0a 3 f t e y r.data.toList = false := by simp [z0a, hz]
    clear hz
    have HF := Lib.hid hfin
    clear hfin
    go_enter Tryz.func155, Tryz.ntmps155
    go_wp2_with (go_at_call 39; refine (z1C _ _ _ _).mono ?_; rintro e w1 ⟨rfl, rfl⟩)
    go_ret
    exact ⟨by rw [HF.out]; rfl, (Below.refl _ _).alloc (Nat.le_refl _) _⟩
theorem zai (f t e y : Int) (r : ByteArray) (w : World) :
 Calls Tryz.prog 155 #[.agg #[.int .i64 4, .int .i64 f, .int .i64 t, .int .i64 e, .int .i64 y, .string r]] w fun e' w' => e' = .returned (.bool (z0a 4 f t e y r.data.toList)) ∧ Below w.heap.size w w' := by
 have hk5 : inB 4 1 5 = true := rfl
 cases he : inB e 1 4
 ·skip
  have hfin : z0a 4 f t e y r.data.toList = false := by simp [z0a, he]
  have HF := Lib.hid hfin
  clear hfin
  go_enter Tryz.func155, Tryz.ntmps155
  go_wp2_with (go_at_call 39; refine (z1C _ _ _ _).mono ?_; rintro e w1 ⟨rfl, rfl⟩)
  go_ret
  exact ⟨by rw [HF.out]; rfl, (Below.refl _ _).alloc (Nat.le_refl _) _⟩
 ·cases hy : inB y 1 1000
  ·skip
   have hfin : z0a 4 f t e y r.data.toList = false := by simp [z0a, hy]
   have HF := Lib.hid hfin
   clear hfin
   go_enter Tryz.func155, Tryz.ntmps155
   go_wp2_with (go_at_call 39; refine (z1C _ _ _ _).mono ?_; rintro e w1 ⟨rfl, rfl⟩)
   go_ret
   exact ⟨by rw [HF.out]; rfl, (Below.refl _ _).alloc (Nat.le_refl _) _⟩
  ·by_cases hz : f = 0
   ·subst hz
    cases hr : inB t 1 4
    ·skip
     have hfin : z0a 4 0 t e y r.data.toList = false := by simp [z0a, he, hy, hr]
     have HF := Lib.hid hfin
     clear hfin
     go_enter Tryz.func155, Tryz.ntmps155
     go_wp2_with (go_at_call 39; refine (z1C _ _ _ _).mono ?_; rintro e w1 ⟨rfl, rfl⟩)
     go_ret
     exact ⟨by rw [HF.out]; rfl, (Below.refl _ _).alloc (Nat.le_refl _) _⟩
    ·cases hE : r.toList.isEmpty
     ·have hE2 : r.data.toList.isEmpty = false := by rw [← toList_data]; exact hE
      have hfin : z0a 4 0 t e y r.data.toList = false := by simp only [z0a, he, hy, hr, hE2]; rfl
      clear hE2
      have HF := Lib.hid hfin
      clear hfin
      go_enter Tryz.func155, Tryz.ntmps155
      go_wp2_with (go_at_call 39; refine (z1C _ _ _ _).mono ?_; rintro e w1 ⟨rfl, rfl⟩)
      go_ret
      exact ⟨by rw [HF.out]; rfl, (Below.refl _ _).alloc (Nat.le_refl _) _⟩
     ·have hE2 : r.data.toList.isEmpty = true := by rw [← toList_data]; exact hE
      have hfin : z0a 4 0 t e y r.data.toList = true := by simp only [z0a, he, hy, hr, hE2]; rfl
      clear hE2
      have HF := Lib.hid hfin
      clear hfin
      go_enter Tryz.func155, Tryz.ntmps155
      go_wp2_with (go_at_call 39; refine (z1C _ _ _ _).mono ?_; rintro e w1 ⟨rfl, rfl⟩)
      go_ret
      exact ⟨by rw [HF.out]; rfl, (Below.refl _ _).alloc (Nat.le_refl _) _⟩
   ·have hz1 : (f == 0) = false := by simpa using hz
    have hz2 : (f != 0) = true := by simpa using hz
    have hfin : z0a 4 f t e y r.data.toList = false := by simp [z0a, hz]
    clear hz
    have HF := Lib.hid hfin
    clear hfin
    go_enter Tryz.func155, Tryz.ntmps155
    go_wp2_with (go_at_call 39; refine (z1C _ _ _ _).mono ?_; rintro e w1 ⟨rfl, rfl⟩)
    go_ret
    exact ⟨by rw [HF.out]; rfl, (Below.refl _ _).alloc (Nat.le_refl _) _⟩
theorem zaj (f t e y : Int) (r : ByteArray) (w : World) :
 Calls Tryz.prog 155 #[.agg #[.int .i64 2, .int .i64 f, .int .i64 t, .int .i64 e, .int .i64 y, .string r]] w fun e' w' => e' = .returned (.bool (z0a 2 f t e y r.data.toList)) ∧ Below w.heap.size w w' := by
 have hk5 : inB 2 1 5 = true := rfl
 cases he : inB e 1 4
 ·skip
  have hfin : z0a 2 f t e y r.data.toList = false := by simp [z0a, he]
  have HF := Lib.hid hfin
  clear hfin
  go_enter Tryz.func155, Tryz.ntmps155
  go_wp2_with (go_at_call 39; refine (z1C _ _ _ _).mono ?_; rintro e w1 ⟨rfl, rfl⟩)
  go_ret
  exact ⟨by rw [HF.out]; rfl, (Below.refl _ _).alloc (Nat.le_refl _) _⟩
 ·cases hy : inB y 1 1000
  ·skip
   have hfin : z0a 2 f t e y r.data.toList = false := by simp [z0a, hy]
   have HF := Lib.hid hfin
   clear hfin
   go_enter Tryz.func155, Tryz.ntmps155
   go_wp2_with (go_at_call 39; refine (z1C _ _ _ _).mono ?_; rintro e w1 ⟨rfl, rfl⟩)
   go_ret
   exact ⟨by rw [HF.out]; rfl, (Below.refl _ _).alloc (Nat.le_refl _) _⟩
  ·by_cases hz : t = 0
   ·subst hz
    cases hr : inB f 1 4
    ·skip
     have hfin : z0a 2 f 0 e y r.data.toList = false := by simp [z0a, he, hy, hr]
     have HF := Lib.hid hfin
     clear hfin
     go_enter Tryz.func155, Tryz.ntmps155
     go_wp2_with (go_at_call 39; refine (z1C _ _ _ _).mono ?_; rintro e w1 ⟨rfl, rfl⟩)
     go_ret
     exact ⟨by rw [HF.out]; rfl, (Below.refl _ _).alloc (Nat.le_refl _) _⟩
    ·by_cases hl : (r.size : Int) = 16
     ·have hl1 : ((r.size : Int) == 16) = true := by simpa using hl
      have hl2 : r.data.toList.length = 16 := by rw [z0w]; omega
      have hfin : z0a 2 f 0 e y r.data.toList = true := by simp only [z0a, he, hy, hr, hl2]; rfl
      clear hl hl2
      have HF := Lib.hid hfin
      clear hfin
      go_enter Tryz.func155, Tryz.ntmps155
      go_wp2_with (go_at_call 39; refine (z1C _ _ _ _).mono ?_; rintro e w1 ⟨rfl, rfl⟩)
      go_ret
      exact ⟨by rw [HF.out]; rfl, (Below.refl _ _).alloc (Nat.le_refl _) _⟩
     ·have hl1 : ((r.size : Int) == 16) = false := by simpa using hl
      have hl2 : (r.data.toList.length == 16) = false := by rw [z0w]; simp; omega
      have hfin : z0a 2 f 0 e y r.data.toList = false := by simp only [z0a, he, hy, hr, hl2]; rfl
      clear hl hl2
      have HF := Lib.hid hfin
      clear hfin
      go_enter Tryz.func155, Tryz.ntmps155
      go_wp2_with (go_at_call 39; refine (z1C _ _ _ _).mono ?_; rintro e w1 ⟨rfl, rfl⟩)
      go_ret
      exact ⟨by rw [HF.out]; rfl, (Below.refl _ _).alloc (Nat.le_refl _) _⟩
   ·have hz1 : (t == 0) = false := by simpa using hz
    have hz2 : (t != 0) = true := by simpa using hz
    have hfin : z0a 2 f t e y r.data.toList = false := by simp [z0a, hz]
    clear hz
    have HF := Lib.hid hfin
    clear hfin
    go_enter Tryz.func155, Tryz.ntmps155
    go_wp2_with (go_at_call 39; refine (z1C _ _ _ _).mono ?_; rintro e w1 ⟨rfl, rfl⟩)
    go_ret
    exact ⟨by rw [HF.out]; rfl, (Below.refl _ _).alloc (Nat.le_refl _) _⟩
theorem zak (f t e y : Int) (r : ByteArray) (w : World) :
 Calls Tryz.prog 155 #[.agg #[.int .i64 5, .int .i64 f, .int .i64 t, .int .i64 e, .int .i64 y, .string r]] w fun e' w' => e' = .returned (.bool (z0a 5 f t e y r.data.toList)) ∧ Below w.heap.size w w' := by
 have hk5 : inB 5 1 5 = true := rfl
 cases he : inB e 1 4
 ·skip
  have hfin : z0a 5 f t e y r.data.toList = false := by simp [z0a, he]
  have HF := Lib.hid hfin
  clear hfin
  go_enter Tryz.func155, Tryz.ntmps155
  go_wp2_with (go_at_call 39; refine (z1C _ _ _ _).mono ?_; rintro e w1 ⟨rfl, rfl⟩)
  go_ret
  exact ⟨by rw [HF.out]; rfl, (Below.refl _ _).alloc (Nat.le_refl _) _⟩
 ·cases hy : inB y 1 1000
  ·skip
   have hfin : z0a 5 f t e y r.data.toList = false := by simp [z0a, hy]
   have HF := Lib.hid hfin
   clear hfin
   go_enter Tryz.func155, Tryz.ntmps155
   go_wp2_with (go_at_call 39; refine (z1C _ _ _ _).mono ?_; rintro e w1 ⟨rfl, rfl⟩)
   go_ret
   exact ⟨by rw [HF.out]; rfl, (Below.refl _ _).alloc (Nat.le_refl _) _⟩
  ·by_cases hz : t = 0
   ·subst hz
    cases hr : inB f 1 4
    ·skip
     have hfin : z0a 5 f 0 e y r.data.toList = false := by simp [z0a, he, hy, hr]
     have HF := Lib.hid hfin
     clear hfin
     go_enter Tryz.func155, Tryz.ntmps155
     go_wp2_with (go_at_call 39; refine (z1C _ _ _ _).mono ?_; rintro e w1 ⟨rfl, rfl⟩)
     go_ret
     exact ⟨by rw [HF.out]; rfl, (Below.refl _ _).alloc (Nat.le_refl _) _⟩
    ·cases hE : r.toList.isEmpty
     ·have hE2 : r.data.toList.isEmpty = false := by rw [← toList_data]; exact hE
      have hfin : z0a 5 f 0 e y r.data.toList = false := by simp only [z0a, he, hy, hr, hE2]; rfl
      clear hE2
      have HF := Lib.hid hfin
      clear hfin
      go_enter Tryz.func155, Tryz.ntmps155
      go_wp2_with (go_at_call 39; refine (z1C _ _ _ _).mono ?_; rintro e w1 ⟨rfl, rfl⟩)
      go_ret
      exact ⟨by rw [HF.out]; rfl, (Below.refl _ _).alloc (Nat.le_refl _) _⟩
     ·have hE2 : r.data.toList.isEmpty = true := by rw [← toList_data]; exact hE
      have hfin : z0a 5 f 0 e y r.data.toList = true := by simp only [z0a, he, hy, hr, hE2]; rfl
      clear hE2
      have HF := Lib.hid hfin
      clear hfin
      go_enter Tryz.func155, Tryz.ntmps155
      go_wp2_with (go_at_call 39; refine (z1C _ _ _ _).mono ?_; rintro e w1 ⟨rfl, rfl⟩)
      go_ret
      exact ⟨by rw [HF.out]; rfl, (Below.refl _ _).alloc (Nat.le_refl _) _⟩
   ·have hz1 : (t == 0) = false := by simpa using hz
    have hz2 : (t != 0) = true := by simpa using hz
    have hfin : z0a 5 f t e y r.data.toList = false := by simp [z0a, hz]
    clear hz
    have HF := Lib.hid hfin
    clear hfin
    go_enter Tryz.func155, Tryz.ntmps155
    go_wp2_with (go_at_call 39; refine (z1C _ _ _ _).mono ?_; rintro e w1 ⟨rfl, rfl⟩)
    go_ret
    exact ⟨by rw [HF.out]; rfl, (Below.refl _ _).alloc (Nat.le_refl _) _⟩
theorem z6k (k f t e y : Int) (r : ByteArray) (w : World) (hk : ¬ (1 ≤ k ∧ k ≤ 5)) :
 Calls Tryz.prog 155 #[.agg #[.int .i64 k, .int .i64 f, .int .i64 t, .int .i64 e, .int .i64 y, .string r]] w fun e' w' => e' = .returned (.bool (z0a k f t e y r.data.toList)) ∧ Below w.heap.size w w' := by
 have hfin : z0a k f t e y r.data.toList = false := by
  have h1 : ¬ (k = 1 ∨ k = 3 ∨ k = 4) := by omega
  have h2 : ¬ k = 2 := by omega
  have h5 : ¬ k = 5 := by omega
  simp [z0a, h1, h2, h5]
 have hk5 : inB k 1 5 = false := by simp only [inB, Bool.and_eq_false_iff, decide_eq_false_iff_not]; omega
 have HF := Lib.hid hfin
 clear hfin
 clear hk
 go_enter Tryz.func155, Tryz.ntmps155
 go_wp2_with (go_at_call 39; refine (z1C _ _ _ _).mono ?_; rintro e w1 ⟨rfl, rfl⟩)
 go_ret
 exact ⟨by rw [HF.out]; rfl, (Below.refl _ _).alloc (Nat.le_refl _) _⟩
theorem z7Z (k f t e y : Int) (r : ByteArray) (w : World) :
 Calls Tryz.prog 155 #[.agg #[.int .i64 k, .int .i64 f, .int .i64 t, .int .i64 e, .int .i64 y, .string r]] w fun e' w' => e' = .returned (.bool (z0a k f t e y r.data.toList)) ∧ Below w.heap.size w w' := by
 by_cases hk : 1 ≤ k ∧ k ≤ 5
 ·rcases (show k = 1 ∨ k = 2 ∨ k = 3 ∨ k = 4 ∨ k = 5 from by omega) with rfl | rfl | rfl | rfl | rfl
  ·exact zag f t e y r w
  ·exact zaj f t e y r w
  ·exact zah f t e y r w
  ·exact zai f t e y r w
  ·exact zak f t e y r w
 ·exact z6k k f t e y r w hk
end Go.Proofs.YtfjbinbpgdiafaaGreatDoor
namespace Go.Proofs.YtfjbinbpgdiafaaGreatDoor
set_option linter.unusedVariables false
set_option linter.unusedSimpArgs false
set_option linter.unusedSectionVars false
open Go.RowKit Pl
end Go.Proofs.YtfjbinbpgdiafaaGreatDoor
namespace Go.Proofs.YtfjbinbpgdiafaaGreatDoor
set_option linter.unusedVariables false
set_option linter.unusedSimpArgs false
set_option linter.unusedSectionVars false
open Go.RowKit Pl
def us2 (t : Bs) : Bs × Bool := match zf2 t with
 | none => ([], false)
 | some s => (s, true)
end Go.Proofs.YtfjbinbpgdiafaaGreatDoor
namespace Go.Proofs.YtfjbinbpgdiafaaGreatDoor
set_option linter.unusedVariables false
set_option linter.unusedSimpArgs false
set_option linter.unusedSectionVars false
open Go.RowKit Pl
end Go.Proofs.YtfjbinbpgdiafaaGreatDoor
