/- Letters: the tests and the texts of both sides. -/
import Derived.Test.YtkdajahiaedoiaaSums
import Derived.Test.YtkdajahiaedoiaaSpecWords
import Derived.Test.YtkdajahiaedoiaaPlainLetter
namespace Go.Proofs.Ytkdajahiaedoiaa
open Go.RowKit Pl
set_option linter.unusedVariables false

set_option maxRecDepth 100000 in
set_option maxHeartbeats 400000 in
theorem in_B (n lo hi : Int) (w : World) :
    Calls Try.prog 86 #[.int .i64 n, .int .i64 lo, .int .i64 hi] w fun e w' => e = .returned (.bool (inB n lo hi)) ∧ w = w' := by
  by_cases h : lo ≤ n ∧ n ≤ hi
  · rw [show inB n lo hi = true by simp [inB, h]]; exact in_yes n lo hi w h.1 h.2
  · rw [show inB n lo hi = false by simp only [inB, Bool.and_eq_false_iff, decide_eq_false_iff_not]; omega]; exact in_no n lo hi w h
set_option maxRecDepth 100000 in
set_option maxHeartbeats 400000 in
theorem sin_B (n lo hi : Int) (w : World) :
    Calls Try.prog 84 #[.int .i64 n, .int .i64 lo, .int .i64 hi] w fun e w' => e = .returned (.bool (inB n lo hi)) ∧ w = w' := by
  by_cases h : lo ≤ n ∧ n ≤ hi
  · rw [show inB n lo hi = true by simp [inB, h]]; exact sin_yes n lo hi w h.1 h.2
  · rw [show inB n lo hi = false by simp only [inB, Bool.and_eq_false_iff, decide_eq_false_iff_not]; omega]; exact sin_no n lo hi w h
set_option maxRecDepth 100000 in
set_option maxHeartbeats 400000 in
theorem isEpoch_B (n : Int) (w : World) :
    Calls Try.prog 85 #[.int .i64 n] w fun e w' => e = .returned (.bool (inB n 1 4)) ∧ w = w' := by
  go_enter Try.func85, Try.ntmps85
  go_wp2_with (go_at_call 86; refine (in_B _ _ _ _).mono ?_; rintro e w1 ⟨rfl, rfl⟩)
  go_ret
  exact ⟨rfl, rfl⟩

set_option maxRecDepth 100000 in
set_option maxHeartbeats 1000000 in
theorem letterOk_1 (f t e y : Int) (r : ByteArray) (w : World) :
    Calls Try.prog 38 #[.agg #[.int .i64 1, .int .i64 f, .int .i64 t, .int .i64 e, .int .i64 y, .string r]] w fun e' w' => e' = .returned (.bool (letterOk 1 f t e y r.data.toList)) ∧ Below w.heap.size w w' := by
  cases he : inB e 1 4
  · skip
    have hfin : letterOk 1 f t e y r.data.toList = false := by simp [letterOk, he]
    have HF := Lib.hid hfin
    clear hfin
    go_enter Try.func38, Try.ntmps38
    go_wp2_with (first | (go_at_call 85; refine (isEpoch_B _ _).mono ?_; rintro e w1 ⟨rfl, rfl⟩) | (go_at_call 86; refine (in_B _ _ _ _).mono ?_; rintro e w1 ⟨rfl, rfl⟩))
    go_ret
    exact ⟨by rw [HF.out]; rfl, (Below.refl _ _).alloc (Nat.le_refl _) _⟩
  · cases hy : inB y 1 1000
    · skip
      have hfin : letterOk 1 f t e y r.data.toList = false := by simp [letterOk, hy]
      have HF := Lib.hid hfin
      clear hfin
      go_enter Try.func38, Try.ntmps38
      go_wp2_with (first | (go_at_call 85; refine (isEpoch_B _ _).mono ?_; rintro e w1 ⟨rfl, rfl⟩) | (go_at_call 86; refine (in_B _ _ _ _).mono ?_; rintro e w1 ⟨rfl, rfl⟩))
      go_ret
      exact ⟨by rw [HF.out]; rfl, (Below.refl _ _).alloc (Nat.le_refl _) _⟩
    · by_cases hz : f = 0
      · subst hz
        cases hr : inB t 1 4
        · skip
          have hfin : letterOk 1 0 t e y r.data.toList = false := by simp [letterOk, he, hy, hr]
          have HF := Lib.hid hfin
          clear hfin
          go_enter Try.func38, Try.ntmps38
          go_wp2_with (first | (go_at_call 85; refine (isEpoch_B _ _).mono ?_; rintro e w1 ⟨rfl, rfl⟩) | (go_at_call 86; refine (in_B _ _ _ _).mono ?_; rintro e w1 ⟨rfl, rfl⟩))
          go_ret
          exact ⟨by rw [HF.out]; rfl, (Below.refl _ _).alloc (Nat.le_refl _) _⟩
        · cases hE : r.toList.isEmpty
          · have hE2 : r.data.toList.isEmpty = false := by rw [← toList_data]; exact hE
            have hfin : letterOk 1 0 t e y r.data.toList = false := by simp only [letterOk, he, hy, hr, hE2]; rfl
            clear hE2
            have HF := Lib.hid hfin
            clear hfin
            go_enter Try.func38, Try.ntmps38
            go_wp2_with (first | (go_at_call 85; refine (isEpoch_B _ _).mono ?_; rintro e w1 ⟨rfl, rfl⟩) | (go_at_call 86; refine (in_B _ _ _ _).mono ?_; rintro e w1 ⟨rfl, rfl⟩))
            go_ret
            exact ⟨by rw [HF.out]; rfl, (Below.refl _ _).alloc (Nat.le_refl _) _⟩
          · have hE2 : r.data.toList.isEmpty = true := by rw [← toList_data]; exact hE
            have hfin : letterOk 1 0 t e y r.data.toList = true := by simp only [letterOk, he, hy, hr, hE2]; rfl
            clear hE2
            have HF := Lib.hid hfin
            clear hfin
            go_enter Try.func38, Try.ntmps38
            go_wp2_with (first | (go_at_call 85; refine (isEpoch_B _ _).mono ?_; rintro e w1 ⟨rfl, rfl⟩) | (go_at_call 86; refine (in_B _ _ _ _).mono ?_; rintro e w1 ⟨rfl, rfl⟩))
            go_ret
            exact ⟨by rw [HF.out]; rfl, (Below.refl _ _).alloc (Nat.le_refl _) _⟩
      · have hz1 : (f == 0) = false := by simpa using hz
        have hfin : letterOk 1 f t e y r.data.toList = false := by simp [letterOk, hz]
        clear hz
        have HF := Lib.hid hfin
        clear hfin
        go_enter Try.func38, Try.ntmps38
        go_wp2_with (first | (go_at_call 85; refine (isEpoch_B _ _).mono ?_; rintro e w1 ⟨rfl, rfl⟩) | (go_at_call 86; refine (in_B _ _ _ _).mono ?_; rintro e w1 ⟨rfl, rfl⟩))
        go_ret
        exact ⟨by rw [HF.out]; rfl, (Below.refl _ _).alloc (Nat.le_refl _) _⟩

set_option maxRecDepth 100000 in
set_option maxHeartbeats 1000000 in
theorem letterOk_3 (f t e y : Int) (r : ByteArray) (w : World) :
    Calls Try.prog 38 #[.agg #[.int .i64 3, .int .i64 f, .int .i64 t, .int .i64 e, .int .i64 y, .string r]] w fun e' w' => e' = .returned (.bool (letterOk 3 f t e y r.data.toList)) ∧ Below w.heap.size w w' := by
  cases he : inB e 1 4
  · skip
    have hfin : letterOk 3 f t e y r.data.toList = false := by simp [letterOk, he]
    have HF := Lib.hid hfin
    clear hfin
    go_enter Try.func38, Try.ntmps38
    go_wp2_with (first | (go_at_call 85; refine (isEpoch_B _ _).mono ?_; rintro e w1 ⟨rfl, rfl⟩) | (go_at_call 86; refine (in_B _ _ _ _).mono ?_; rintro e w1 ⟨rfl, rfl⟩))
    go_ret
    exact ⟨by rw [HF.out]; rfl, (Below.refl _ _).alloc (Nat.le_refl _) _⟩
  · cases hy : inB y 1 1000
    · skip
      have hfin : letterOk 3 f t e y r.data.toList = false := by simp [letterOk, hy]
      have HF := Lib.hid hfin
      clear hfin
      go_enter Try.func38, Try.ntmps38
      go_wp2_with (first | (go_at_call 85; refine (isEpoch_B _ _).mono ?_; rintro e w1 ⟨rfl, rfl⟩) | (go_at_call 86; refine (in_B _ _ _ _).mono ?_; rintro e w1 ⟨rfl, rfl⟩))
      go_ret
      exact ⟨by rw [HF.out]; rfl, (Below.refl _ _).alloc (Nat.le_refl _) _⟩
    · by_cases hz : f = 0
      · subst hz
        cases hr : inB t 1 4
        · skip
          have hfin : letterOk 3 0 t e y r.data.toList = false := by simp [letterOk, he, hy, hr]
          have HF := Lib.hid hfin
          clear hfin
          go_enter Try.func38, Try.ntmps38
          go_wp2_with (first | (go_at_call 85; refine (isEpoch_B _ _).mono ?_; rintro e w1 ⟨rfl, rfl⟩) | (go_at_call 86; refine (in_B _ _ _ _).mono ?_; rintro e w1 ⟨rfl, rfl⟩))
          go_ret
          exact ⟨by rw [HF.out]; rfl, (Below.refl _ _).alloc (Nat.le_refl _) _⟩
        · cases hE : r.toList.isEmpty
          · have hE2 : r.data.toList.isEmpty = false := by rw [← toList_data]; exact hE
            have hfin : letterOk 3 0 t e y r.data.toList = false := by simp only [letterOk, he, hy, hr, hE2]; rfl
            clear hE2
            have HF := Lib.hid hfin
            clear hfin
            go_enter Try.func38, Try.ntmps38
            go_wp2_with (first | (go_at_call 85; refine (isEpoch_B _ _).mono ?_; rintro e w1 ⟨rfl, rfl⟩) | (go_at_call 86; refine (in_B _ _ _ _).mono ?_; rintro e w1 ⟨rfl, rfl⟩))
            go_ret
            exact ⟨by rw [HF.out]; rfl, (Below.refl _ _).alloc (Nat.le_refl _) _⟩
          · have hE2 : r.data.toList.isEmpty = true := by rw [← toList_data]; exact hE
            have hfin : letterOk 3 0 t e y r.data.toList = true := by simp only [letterOk, he, hy, hr, hE2]; rfl
            clear hE2
            have HF := Lib.hid hfin
            clear hfin
            go_enter Try.func38, Try.ntmps38
            go_wp2_with (first | (go_at_call 85; refine (isEpoch_B _ _).mono ?_; rintro e w1 ⟨rfl, rfl⟩) | (go_at_call 86; refine (in_B _ _ _ _).mono ?_; rintro e w1 ⟨rfl, rfl⟩))
            go_ret
            exact ⟨by rw [HF.out]; rfl, (Below.refl _ _).alloc (Nat.le_refl _) _⟩
      · have hz1 : (f == 0) = false := by simpa using hz
        have hfin : letterOk 3 f t e y r.data.toList = false := by simp [letterOk, hz]
        clear hz
        have HF := Lib.hid hfin
        clear hfin
        go_enter Try.func38, Try.ntmps38
        go_wp2_with (first | (go_at_call 85; refine (isEpoch_B _ _).mono ?_; rintro e w1 ⟨rfl, rfl⟩) | (go_at_call 86; refine (in_B _ _ _ _).mono ?_; rintro e w1 ⟨rfl, rfl⟩))
        go_ret
        exact ⟨by rw [HF.out]; rfl, (Below.refl _ _).alloc (Nat.le_refl _) _⟩

set_option maxRecDepth 100000 in
set_option maxHeartbeats 1000000 in
theorem letterOk_4 (f t e y : Int) (r : ByteArray) (w : World) :
    Calls Try.prog 38 #[.agg #[.int .i64 4, .int .i64 f, .int .i64 t, .int .i64 e, .int .i64 y, .string r]] w fun e' w' => e' = .returned (.bool (letterOk 4 f t e y r.data.toList)) ∧ Below w.heap.size w w' := by
  cases he : inB e 1 4
  · skip
    have hfin : letterOk 4 f t e y r.data.toList = false := by simp [letterOk, he]
    have HF := Lib.hid hfin
    clear hfin
    go_enter Try.func38, Try.ntmps38
    go_wp2_with (first | (go_at_call 85; refine (isEpoch_B _ _).mono ?_; rintro e w1 ⟨rfl, rfl⟩) | (go_at_call 86; refine (in_B _ _ _ _).mono ?_; rintro e w1 ⟨rfl, rfl⟩))
    go_ret
    exact ⟨by rw [HF.out]; rfl, (Below.refl _ _).alloc (Nat.le_refl _) _⟩
  · cases hy : inB y 1 1000
    · skip
      have hfin : letterOk 4 f t e y r.data.toList = false := by simp [letterOk, hy]
      have HF := Lib.hid hfin
      clear hfin
      go_enter Try.func38, Try.ntmps38
      go_wp2_with (first | (go_at_call 85; refine (isEpoch_B _ _).mono ?_; rintro e w1 ⟨rfl, rfl⟩) | (go_at_call 86; refine (in_B _ _ _ _).mono ?_; rintro e w1 ⟨rfl, rfl⟩))
      go_ret
      exact ⟨by rw [HF.out]; rfl, (Below.refl _ _).alloc (Nat.le_refl _) _⟩
    · by_cases hz : f = 0
      · subst hz
        cases hr : inB t 1 4
        · skip
          have hfin : letterOk 4 0 t e y r.data.toList = false := by simp [letterOk, he, hy, hr]
          have HF := Lib.hid hfin
          clear hfin
          go_enter Try.func38, Try.ntmps38
          go_wp2_with (first | (go_at_call 85; refine (isEpoch_B _ _).mono ?_; rintro e w1 ⟨rfl, rfl⟩) | (go_at_call 86; refine (in_B _ _ _ _).mono ?_; rintro e w1 ⟨rfl, rfl⟩))
          go_ret
          exact ⟨by rw [HF.out]; rfl, (Below.refl _ _).alloc (Nat.le_refl _) _⟩
        · cases hE : r.toList.isEmpty
          · have hE2 : r.data.toList.isEmpty = false := by rw [← toList_data]; exact hE
            have hfin : letterOk 4 0 t e y r.data.toList = false := by simp only [letterOk, he, hy, hr, hE2]; rfl
            clear hE2
            have HF := Lib.hid hfin
            clear hfin
            go_enter Try.func38, Try.ntmps38
            go_wp2_with (first | (go_at_call 85; refine (isEpoch_B _ _).mono ?_; rintro e w1 ⟨rfl, rfl⟩) | (go_at_call 86; refine (in_B _ _ _ _).mono ?_; rintro e w1 ⟨rfl, rfl⟩))
            go_ret
            exact ⟨by rw [HF.out]; rfl, (Below.refl _ _).alloc (Nat.le_refl _) _⟩
          · have hE2 : r.data.toList.isEmpty = true := by rw [← toList_data]; exact hE
            have hfin : letterOk 4 0 t e y r.data.toList = true := by simp only [letterOk, he, hy, hr, hE2]; rfl
            clear hE2
            have HF := Lib.hid hfin
            clear hfin
            go_enter Try.func38, Try.ntmps38
            go_wp2_with (first | (go_at_call 85; refine (isEpoch_B _ _).mono ?_; rintro e w1 ⟨rfl, rfl⟩) | (go_at_call 86; refine (in_B _ _ _ _).mono ?_; rintro e w1 ⟨rfl, rfl⟩))
            go_ret
            exact ⟨by rw [HF.out]; rfl, (Below.refl _ _).alloc (Nat.le_refl _) _⟩
      · have hz1 : (f == 0) = false := by simpa using hz
        have hfin : letterOk 4 f t e y r.data.toList = false := by simp [letterOk, hz]
        clear hz
        have HF := Lib.hid hfin
        clear hfin
        go_enter Try.func38, Try.ntmps38
        go_wp2_with (first | (go_at_call 85; refine (isEpoch_B _ _).mono ?_; rintro e w1 ⟨rfl, rfl⟩) | (go_at_call 86; refine (in_B _ _ _ _).mono ?_; rintro e w1 ⟨rfl, rfl⟩))
        go_ret
        exact ⟨by rw [HF.out]; rfl, (Below.refl _ _).alloc (Nat.le_refl _) _⟩

set_option maxRecDepth 100000 in
set_option maxHeartbeats 1000000 in
theorem letterOk_2 (f t e y : Int) (r : ByteArray) (w : World) :
    Calls Try.prog 38 #[.agg #[.int .i64 2, .int .i64 f, .int .i64 t, .int .i64 e, .int .i64 y, .string r]] w fun e' w' => e' = .returned (.bool (letterOk 2 f t e y r.data.toList)) ∧ Below w.heap.size w w' := by
  cases he : inB e 1 4
  · skip
    have hfin : letterOk 2 f t e y r.data.toList = false := by simp [letterOk, he]
    have HF := Lib.hid hfin
    clear hfin
    go_enter Try.func38, Try.ntmps38
    go_wp2_with (first | (go_at_call 85; refine (isEpoch_B _ _).mono ?_; rintro e w1 ⟨rfl, rfl⟩) | (go_at_call 86; refine (in_B _ _ _ _).mono ?_; rintro e w1 ⟨rfl, rfl⟩))
    go_ret
    exact ⟨by rw [HF.out]; rfl, (Below.refl _ _).alloc (Nat.le_refl _) _⟩
  · cases hy : inB y 1 1000
    · skip
      have hfin : letterOk 2 f t e y r.data.toList = false := by simp [letterOk, hy]
      have HF := Lib.hid hfin
      clear hfin
      go_enter Try.func38, Try.ntmps38
      go_wp2_with (first | (go_at_call 85; refine (isEpoch_B _ _).mono ?_; rintro e w1 ⟨rfl, rfl⟩) | (go_at_call 86; refine (in_B _ _ _ _).mono ?_; rintro e w1 ⟨rfl, rfl⟩))
      go_ret
      exact ⟨by rw [HF.out]; rfl, (Below.refl _ _).alloc (Nat.le_refl _) _⟩
    · by_cases hz : t = 0
      · subst hz
        cases hr : inB f 1 4
        · skip
          have hfin : letterOk 2 f 0 e y r.data.toList = false := by simp [letterOk, he, hy, hr]
          have HF := Lib.hid hfin
          clear hfin
          go_enter Try.func38, Try.ntmps38
          go_wp2_with (first | (go_at_call 85; refine (isEpoch_B _ _).mono ?_; rintro e w1 ⟨rfl, rfl⟩) | (go_at_call 86; refine (in_B _ _ _ _).mono ?_; rintro e w1 ⟨rfl, rfl⟩))
          go_ret
          exact ⟨by rw [HF.out]; rfl, (Below.refl _ _).alloc (Nat.le_refl _) _⟩
        · by_cases hl : (r.size : Int) = 16
          · have hl1 : ((r.size : Int) == 16) = true := by simpa using hl
            have hl2 : r.data.toList.length = 16 := by rw [size_data]; omega
            have hfin : letterOk 2 f 0 e y r.data.toList = true := by simp only [letterOk, he, hy, hr, hl2]; rfl
            clear hl hl2
            have HF := Lib.hid hfin
            clear hfin
            go_enter Try.func38, Try.ntmps38
            go_wp2_with (first | (go_at_call 85; refine (isEpoch_B _ _).mono ?_; rintro e w1 ⟨rfl, rfl⟩) | (go_at_call 86; refine (in_B _ _ _ _).mono ?_; rintro e w1 ⟨rfl, rfl⟩))
            go_ret
            exact ⟨by rw [HF.out]; rfl, (Below.refl _ _).alloc (Nat.le_refl _) _⟩
          · have hl1 : ((r.size : Int) == 16) = false := by simpa using hl
            have hl2 : (r.data.toList.length == 16) = false := by rw [size_data]; simp; omega
            have hfin : letterOk 2 f 0 e y r.data.toList = false := by simp only [letterOk, he, hy, hr, hl2]; rfl
            clear hl hl2
            have HF := Lib.hid hfin
            clear hfin
            go_enter Try.func38, Try.ntmps38
            go_wp2_with (first | (go_at_call 85; refine (isEpoch_B _ _).mono ?_; rintro e w1 ⟨rfl, rfl⟩) | (go_at_call 86; refine (in_B _ _ _ _).mono ?_; rintro e w1 ⟨rfl, rfl⟩))
            go_ret
            exact ⟨by rw [HF.out]; rfl, (Below.refl _ _).alloc (Nat.le_refl _) _⟩
      · have hz1 : (t == 0) = false := by simpa using hz
        have hfin : letterOk 2 f t e y r.data.toList = false := by simp [letterOk, hz]
        clear hz
        have HF := Lib.hid hfin
        clear hfin
        go_enter Try.func38, Try.ntmps38
        go_wp2_with (first | (go_at_call 85; refine (isEpoch_B _ _).mono ?_; rintro e w1 ⟨rfl, rfl⟩) | (go_at_call 86; refine (in_B _ _ _ _).mono ?_; rintro e w1 ⟨rfl, rfl⟩))
        go_ret
        exact ⟨by rw [HF.out]; rfl, (Below.refl _ _).alloc (Nat.le_refl _) _⟩

set_option maxRecDepth 100000 in
set_option maxHeartbeats 1000000 in
theorem letterOk_5 (f t e y : Int) (r : ByteArray) (w : World) :
    Calls Try.prog 38 #[.agg #[.int .i64 5, .int .i64 f, .int .i64 t, .int .i64 e, .int .i64 y, .string r]] w fun e' w' => e' = .returned (.bool (letterOk 5 f t e y r.data.toList)) ∧ Below w.heap.size w w' := by
  cases he : inB e 1 4
  · skip
    have hfin : letterOk 5 f t e y r.data.toList = false := by simp [letterOk, he]
    have HF := Lib.hid hfin
    clear hfin
    go_enter Try.func38, Try.ntmps38
    go_wp2_with (first | (go_at_call 85; refine (isEpoch_B _ _).mono ?_; rintro e w1 ⟨rfl, rfl⟩) | (go_at_call 86; refine (in_B _ _ _ _).mono ?_; rintro e w1 ⟨rfl, rfl⟩))
    go_ret
    exact ⟨by rw [HF.out]; rfl, (Below.refl _ _).alloc (Nat.le_refl _) _⟩
  · cases hy : inB y 1 1000
    · skip
      have hfin : letterOk 5 f t e y r.data.toList = false := by simp [letterOk, hy]
      have HF := Lib.hid hfin
      clear hfin
      go_enter Try.func38, Try.ntmps38
      go_wp2_with (first | (go_at_call 85; refine (isEpoch_B _ _).mono ?_; rintro e w1 ⟨rfl, rfl⟩) | (go_at_call 86; refine (in_B _ _ _ _).mono ?_; rintro e w1 ⟨rfl, rfl⟩))
      go_ret
      exact ⟨by rw [HF.out]; rfl, (Below.refl _ _).alloc (Nat.le_refl _) _⟩
    · by_cases hz : t = 0
      · subst hz
        cases hr : inB f 1 4
        · skip
          have hfin : letterOk 5 f 0 e y r.data.toList = false := by simp [letterOk, he, hy, hr]
          have HF := Lib.hid hfin
          clear hfin
          go_enter Try.func38, Try.ntmps38
          go_wp2_with (first | (go_at_call 85; refine (isEpoch_B _ _).mono ?_; rintro e w1 ⟨rfl, rfl⟩) | (go_at_call 86; refine (in_B _ _ _ _).mono ?_; rintro e w1 ⟨rfl, rfl⟩))
          go_ret
          exact ⟨by rw [HF.out]; rfl, (Below.refl _ _).alloc (Nat.le_refl _) _⟩
        · cases hE : r.toList.isEmpty
          · have hE2 : r.data.toList.isEmpty = false := by rw [← toList_data]; exact hE
            have hfin : letterOk 5 f 0 e y r.data.toList = false := by simp only [letterOk, he, hy, hr, hE2]; rfl
            clear hE2
            have HF := Lib.hid hfin
            clear hfin
            go_enter Try.func38, Try.ntmps38
            go_wp2_with (first | (go_at_call 85; refine (isEpoch_B _ _).mono ?_; rintro e w1 ⟨rfl, rfl⟩) | (go_at_call 86; refine (in_B _ _ _ _).mono ?_; rintro e w1 ⟨rfl, rfl⟩))
            go_ret
            exact ⟨by rw [HF.out]; rfl, (Below.refl _ _).alloc (Nat.le_refl _) _⟩
          · have hE2 : r.data.toList.isEmpty = true := by rw [← toList_data]; exact hE
            have hfin : letterOk 5 f 0 e y r.data.toList = true := by simp only [letterOk, he, hy, hr, hE2]; rfl
            clear hE2
            have HF := Lib.hid hfin
            clear hfin
            go_enter Try.func38, Try.ntmps38
            go_wp2_with (first | (go_at_call 85; refine (isEpoch_B _ _).mono ?_; rintro e w1 ⟨rfl, rfl⟩) | (go_at_call 86; refine (in_B _ _ _ _).mono ?_; rintro e w1 ⟨rfl, rfl⟩))
            go_ret
            exact ⟨by rw [HF.out]; rfl, (Below.refl _ _).alloc (Nat.le_refl _) _⟩
      · have hz1 : (t == 0) = false := by simpa using hz
        have hfin : letterOk 5 f t e y r.data.toList = false := by simp [letterOk, hz]
        clear hz
        have HF := Lib.hid hfin
        clear hfin
        go_enter Try.func38, Try.ntmps38
        go_wp2_with (first | (go_at_call 85; refine (isEpoch_B _ _).mono ?_; rintro e w1 ⟨rfl, rfl⟩) | (go_at_call 86; refine (in_B _ _ _ _).mono ?_; rintro e w1 ⟨rfl, rfl⟩))
        go_ret
        exact ⟨by rw [HF.out]; rfl, (Below.refl _ _).alloc (Nat.le_refl _) _⟩

set_option maxRecDepth 100000 in
set_option maxHeartbeats 1000000 in
theorem letterOk_other (k f t e y : Int) (r : ByteArray) (w : World) (hk : ¬ (1 ≤ k ∧ k ≤ 5)) :
    Calls Try.prog 38 #[.agg #[.int .i64 k, .int .i64 f, .int .i64 t, .int .i64 e, .int .i64 y, .string r]] w fun e' w' => e' = .returned (.bool (letterOk k f t e y r.data.toList)) ∧ Below w.heap.size w w' := by
  have hfin : letterOk k f t e y r.data.toList = false := by
    have h1 : ¬ (k = 1 ∨ k = 3 ∨ k = 4) := by omega
    have h2 : ¬ k = 2 := by omega
    have h5 : ¬ k = 5 := by omega
    simp [letterOk, h1, h2, h5]
  have k1 : (k == 1) = false := by simp; omega
  have k3 : (k == 3) = false := by simp; omega
  have k4 : (k == 4) = false := by simp; omega
  have k2 : (k == 2) = false := by simp; omega
  have k5 : (k == 5) = false := by simp; omega
  have HF := Lib.hid hfin
  clear hfin
  clear hk
  cases he : inB e 1 4
  · skip
    go_enter Try.func38, Try.ntmps38
    go_wp2_with (first | (go_at_call 85; refine (isEpoch_B _ _).mono ?_; rintro e w1 ⟨rfl, rfl⟩) | (go_at_call 86; refine (in_B _ _ _ _).mono ?_; rintro e w1 ⟨rfl, rfl⟩))
    go_ret
    exact ⟨by rw [HF.out]; rfl, (Below.refl _ _).alloc (Nat.le_refl _) _⟩
  · cases hy : inB y 1 1000
    all_goals
      go_enter Try.func38, Try.ntmps38
      go_wp2_with (first | (go_at_call 85; refine (isEpoch_B _ _).mono ?_; rintro e w1 ⟨rfl, rfl⟩) | (go_at_call 86; refine (in_B _ _ _ _).mono ?_; rintro e w1 ⟨rfl, rfl⟩))
      go_ret
      exact ⟨by rw [HF.out]; rfl, (Below.refl _ _).alloc (Nat.le_refl _) _⟩

theorem letterOk_any (k f t e y : Int) (r : ByteArray) (w : World) :
    Calls Try.prog 38 #[.agg #[.int .i64 k, .int .i64 f, .int .i64 t, .int .i64 e, .int .i64 y, .string r]] w fun e' w' => e' = .returned (.bool (letterOk k f t e y r.data.toList)) ∧ Below w.heap.size w w' := by
  by_cases hk : 1 ≤ k ∧ k ≤ 5
  · rcases (show k = 1 ∨ k = 2 ∨ k = 3 ∨ k = 4 ∨ k = 5 from by omega) with rfl | rfl | rfl | rfl | rfl
    · exact letterOk_1 f t e y r w
    · exact letterOk_2 f t e y r w
    · exact letterOk_3 f t e y r w
    · exact letterOk_4 f t e y r w
    · exact letterOk_5 f t e y r w
  · exact letterOk_other k f t e y r w hk

set_option maxRecDepth 100000 in
set_option maxHeartbeats 1000000 in
theorem sLetterOk_1 (f t e y : Int) (r : ByteArray) (w : World) :
    Calls Try.prog 37 #[.agg #[.int .i64 1, .int .i64 f, .int .i64 t, .int .i64 e, .int .i64 y, .string r]] w fun e' w' => e' = .returned (.bool (letterOk 1 f t e y r.data.toList)) ∧ Below w.heap.size w w' := by
  have hk5 : inB 1 1 5 = true := rfl
  cases he : inB e 1 4
  · skip
    have hfin : letterOk 1 f t e y r.data.toList = false := by simp [letterOk, he]
    have HF := Lib.hid hfin
    clear hfin
    go_enter Try.func37, Try.ntmps37
    go_wp2_with (go_at_call 84; refine (sin_B _ _ _ _).mono ?_; rintro e w1 ⟨rfl, rfl⟩)
    go_ret
    exact ⟨by rw [HF.out]; rfl, (Below.refl _ _).alloc (Nat.le_refl _) _⟩
  · cases hy : inB y 1 1000
    · skip
      have hfin : letterOk 1 f t e y r.data.toList = false := by simp [letterOk, hy]
      have HF := Lib.hid hfin
      clear hfin
      go_enter Try.func37, Try.ntmps37
      go_wp2_with (go_at_call 84; refine (sin_B _ _ _ _).mono ?_; rintro e w1 ⟨rfl, rfl⟩)
      go_ret
      exact ⟨by rw [HF.out]; rfl, (Below.refl _ _).alloc (Nat.le_refl _) _⟩
    · by_cases hz : f = 0
      · subst hz
        cases hr : inB t 1 4
        · skip
          have hfin : letterOk 1 0 t e y r.data.toList = false := by simp [letterOk, he, hy, hr]
          have HF := Lib.hid hfin
          clear hfin
          go_enter Try.func37, Try.ntmps37
          go_wp2_with (go_at_call 84; refine (sin_B _ _ _ _).mono ?_; rintro e w1 ⟨rfl, rfl⟩)
          go_ret
          exact ⟨by rw [HF.out]; rfl, (Below.refl _ _).alloc (Nat.le_refl _) _⟩
        · cases hE : r.toList.isEmpty
          · have hE2 : r.data.toList.isEmpty = false := by rw [← toList_data]; exact hE
            have hfin : letterOk 1 0 t e y r.data.toList = false := by simp only [letterOk, he, hy, hr, hE2]; rfl
            clear hE2
            have HF := Lib.hid hfin
            clear hfin
            go_enter Try.func37, Try.ntmps37
            go_wp2_with (go_at_call 84; refine (sin_B _ _ _ _).mono ?_; rintro e w1 ⟨rfl, rfl⟩)
            go_ret
            exact ⟨by rw [HF.out]; rfl, (Below.refl _ _).alloc (Nat.le_refl _) _⟩
          · have hE2 : r.data.toList.isEmpty = true := by rw [← toList_data]; exact hE
            have hfin : letterOk 1 0 t e y r.data.toList = true := by simp only [letterOk, he, hy, hr, hE2]; rfl
            clear hE2
            have HF := Lib.hid hfin
            clear hfin
            go_enter Try.func37, Try.ntmps37
            go_wp2_with (go_at_call 84; refine (sin_B _ _ _ _).mono ?_; rintro e w1 ⟨rfl, rfl⟩)
            go_ret
            exact ⟨by rw [HF.out]; rfl, (Below.refl _ _).alloc (Nat.le_refl _) _⟩
      · have hz1 : (f == 0) = false := by simpa using hz
        have hz2 : (f != 0) = true := by simpa using hz
        have hfin : letterOk 1 f t e y r.data.toList = false := by simp [letterOk, hz]
        clear hz
        have HF := Lib.hid hfin
        clear hfin
        go_enter Try.func37, Try.ntmps37
        go_wp2_with (go_at_call 84; refine (sin_B _ _ _ _).mono ?_; rintro e w1 ⟨rfl, rfl⟩)
        go_ret
        exact ⟨by rw [HF.out]; rfl, (Below.refl _ _).alloc (Nat.le_refl _) _⟩

set_option maxRecDepth 100000 in
set_option maxHeartbeats 1000000 in
theorem sLetterOk_3 (f t e y : Int) (r : ByteArray) (w : World) :
    Calls Try.prog 37 #[.agg #[.int .i64 3, .int .i64 f, .int .i64 t, .int .i64 e, .int .i64 y, .string r]] w fun e' w' => e' = .returned (.bool (letterOk 3 f t e y r.data.toList)) ∧ Below w.heap.size w w' := by
  have hk5 : inB 3 1 5 = true := rfl
  cases he : inB e 1 4
  · skip
    have hfin : letterOk 3 f t e y r.data.toList = false := by simp [letterOk, he]
    have HF := Lib.hid hfin
    clear hfin
    go_enter Try.func37, Try.ntmps37
    go_wp2_with (go_at_call 84; refine (sin_B _ _ _ _).mono ?_; rintro e w1 ⟨rfl, rfl⟩)
    go_ret
    exact ⟨by rw [HF.out]; rfl, (Below.refl _ _).alloc (Nat.le_refl _) _⟩
  · cases hy : inB y 1 1000
    · skip
      have hfin : letterOk 3 f t e y r.data.toList = false := by simp [letterOk, hy]
      have HF := Lib.hid hfin
      clear hfin
      go_enter Try.func37, Try.ntmps37
      go_wp2_with (go_at_call 84; refine (sin_B _ _ _ _).mono ?_; rintro e w1 ⟨rfl, rfl⟩)
      go_ret
      exact ⟨by rw [HF.out]; rfl, (Below.refl _ _).alloc (Nat.le_refl _) _⟩
    · by_cases hz : f = 0
      · subst hz
        cases hr : inB t 1 4
        · skip
          have hfin : letterOk 3 0 t e y r.data.toList = false := by simp [letterOk, he, hy, hr]
          have HF := Lib.hid hfin
          clear hfin
          go_enter Try.func37, Try.ntmps37
          go_wp2_with (go_at_call 84; refine (sin_B _ _ _ _).mono ?_; rintro e w1 ⟨rfl, rfl⟩)
          go_ret
          exact ⟨by rw [HF.out]; rfl, (Below.refl _ _).alloc (Nat.le_refl _) _⟩
        · cases hE : r.toList.isEmpty
          · have hE2 : r.data.toList.isEmpty = false := by rw [← toList_data]; exact hE
            have hfin : letterOk 3 0 t e y r.data.toList = false := by simp only [letterOk, he, hy, hr, hE2]; rfl
            clear hE2
            have HF := Lib.hid hfin
            clear hfin
            go_enter Try.func37, Try.ntmps37
            go_wp2_with (go_at_call 84; refine (sin_B _ _ _ _).mono ?_; rintro e w1 ⟨rfl, rfl⟩)
            go_ret
            exact ⟨by rw [HF.out]; rfl, (Below.refl _ _).alloc (Nat.le_refl _) _⟩
          · have hE2 : r.data.toList.isEmpty = true := by rw [← toList_data]; exact hE
            have hfin : letterOk 3 0 t e y r.data.toList = true := by simp only [letterOk, he, hy, hr, hE2]; rfl
            clear hE2
            have HF := Lib.hid hfin
            clear hfin
            go_enter Try.func37, Try.ntmps37
            go_wp2_with (go_at_call 84; refine (sin_B _ _ _ _).mono ?_; rintro e w1 ⟨rfl, rfl⟩)
            go_ret
            exact ⟨by rw [HF.out]; rfl, (Below.refl _ _).alloc (Nat.le_refl _) _⟩
      · have hz1 : (f == 0) = false := by simpa using hz
        have hz2 : (f != 0) = true := by simpa using hz
        have hfin : letterOk 3 f t e y r.data.toList = false := by simp [letterOk, hz]
        clear hz
        have HF := Lib.hid hfin
        clear hfin
        go_enter Try.func37, Try.ntmps37
        go_wp2_with (go_at_call 84; refine (sin_B _ _ _ _).mono ?_; rintro e w1 ⟨rfl, rfl⟩)
        go_ret
        exact ⟨by rw [HF.out]; rfl, (Below.refl _ _).alloc (Nat.le_refl _) _⟩

set_option maxRecDepth 100000 in
set_option maxHeartbeats 1000000 in
theorem sLetterOk_4 (f t e y : Int) (r : ByteArray) (w : World) :
    Calls Try.prog 37 #[.agg #[.int .i64 4, .int .i64 f, .int .i64 t, .int .i64 e, .int .i64 y, .string r]] w fun e' w' => e' = .returned (.bool (letterOk 4 f t e y r.data.toList)) ∧ Below w.heap.size w w' := by
  have hk5 : inB 4 1 5 = true := rfl
  cases he : inB e 1 4
  · skip
    have hfin : letterOk 4 f t e y r.data.toList = false := by simp [letterOk, he]
    have HF := Lib.hid hfin
    clear hfin
    go_enter Try.func37, Try.ntmps37
    go_wp2_with (go_at_call 84; refine (sin_B _ _ _ _).mono ?_; rintro e w1 ⟨rfl, rfl⟩)
    go_ret
    exact ⟨by rw [HF.out]; rfl, (Below.refl _ _).alloc (Nat.le_refl _) _⟩
  · cases hy : inB y 1 1000
    · skip
      have hfin : letterOk 4 f t e y r.data.toList = false := by simp [letterOk, hy]
      have HF := Lib.hid hfin
      clear hfin
      go_enter Try.func37, Try.ntmps37
      go_wp2_with (go_at_call 84; refine (sin_B _ _ _ _).mono ?_; rintro e w1 ⟨rfl, rfl⟩)
      go_ret
      exact ⟨by rw [HF.out]; rfl, (Below.refl _ _).alloc (Nat.le_refl _) _⟩
    · by_cases hz : f = 0
      · subst hz
        cases hr : inB t 1 4
        · skip
          have hfin : letterOk 4 0 t e y r.data.toList = false := by simp [letterOk, he, hy, hr]
          have HF := Lib.hid hfin
          clear hfin
          go_enter Try.func37, Try.ntmps37
          go_wp2_with (go_at_call 84; refine (sin_B _ _ _ _).mono ?_; rintro e w1 ⟨rfl, rfl⟩)
          go_ret
          exact ⟨by rw [HF.out]; rfl, (Below.refl _ _).alloc (Nat.le_refl _) _⟩
        · cases hE : r.toList.isEmpty
          · have hE2 : r.data.toList.isEmpty = false := by rw [← toList_data]; exact hE
            have hfin : letterOk 4 0 t e y r.data.toList = false := by simp only [letterOk, he, hy, hr, hE2]; rfl
            clear hE2
            have HF := Lib.hid hfin
            clear hfin
            go_enter Try.func37, Try.ntmps37
            go_wp2_with (go_at_call 84; refine (sin_B _ _ _ _).mono ?_; rintro e w1 ⟨rfl, rfl⟩)
            go_ret
            exact ⟨by rw [HF.out]; rfl, (Below.refl _ _).alloc (Nat.le_refl _) _⟩
          · have hE2 : r.data.toList.isEmpty = true := by rw [← toList_data]; exact hE
            have hfin : letterOk 4 0 t e y r.data.toList = true := by simp only [letterOk, he, hy, hr, hE2]; rfl
            clear hE2
            have HF := Lib.hid hfin
            clear hfin
            go_enter Try.func37, Try.ntmps37
            go_wp2_with (go_at_call 84; refine (sin_B _ _ _ _).mono ?_; rintro e w1 ⟨rfl, rfl⟩)
            go_ret
            exact ⟨by rw [HF.out]; rfl, (Below.refl _ _).alloc (Nat.le_refl _) _⟩
      · have hz1 : (f == 0) = false := by simpa using hz
        have hz2 : (f != 0) = true := by simpa using hz
        have hfin : letterOk 4 f t e y r.data.toList = false := by simp [letterOk, hz]
        clear hz
        have HF := Lib.hid hfin
        clear hfin
        go_enter Try.func37, Try.ntmps37
        go_wp2_with (go_at_call 84; refine (sin_B _ _ _ _).mono ?_; rintro e w1 ⟨rfl, rfl⟩)
        go_ret
        exact ⟨by rw [HF.out]; rfl, (Below.refl _ _).alloc (Nat.le_refl _) _⟩

set_option maxRecDepth 100000 in
set_option maxHeartbeats 1000000 in
theorem sLetterOk_2 (f t e y : Int) (r : ByteArray) (w : World) :
    Calls Try.prog 37 #[.agg #[.int .i64 2, .int .i64 f, .int .i64 t, .int .i64 e, .int .i64 y, .string r]] w fun e' w' => e' = .returned (.bool (letterOk 2 f t e y r.data.toList)) ∧ Below w.heap.size w w' := by
  have hk5 : inB 2 1 5 = true := rfl
  cases he : inB e 1 4
  · skip
    have hfin : letterOk 2 f t e y r.data.toList = false := by simp [letterOk, he]
    have HF := Lib.hid hfin
    clear hfin
    go_enter Try.func37, Try.ntmps37
    go_wp2_with (go_at_call 84; refine (sin_B _ _ _ _).mono ?_; rintro e w1 ⟨rfl, rfl⟩)
    go_ret
    exact ⟨by rw [HF.out]; rfl, (Below.refl _ _).alloc (Nat.le_refl _) _⟩
  · cases hy : inB y 1 1000
    · skip
      have hfin : letterOk 2 f t e y r.data.toList = false := by simp [letterOk, hy]
      have HF := Lib.hid hfin
      clear hfin
      go_enter Try.func37, Try.ntmps37
      go_wp2_with (go_at_call 84; refine (sin_B _ _ _ _).mono ?_; rintro e w1 ⟨rfl, rfl⟩)
      go_ret
      exact ⟨by rw [HF.out]; rfl, (Below.refl _ _).alloc (Nat.le_refl _) _⟩
    · by_cases hz : t = 0
      · subst hz
        cases hr : inB f 1 4
        · skip
          have hfin : letterOk 2 f 0 e y r.data.toList = false := by simp [letterOk, he, hy, hr]
          have HF := Lib.hid hfin
          clear hfin
          go_enter Try.func37, Try.ntmps37
          go_wp2_with (go_at_call 84; refine (sin_B _ _ _ _).mono ?_; rintro e w1 ⟨rfl, rfl⟩)
          go_ret
          exact ⟨by rw [HF.out]; rfl, (Below.refl _ _).alloc (Nat.le_refl _) _⟩
        · by_cases hl : (r.size : Int) = 16
          · have hl1 : ((r.size : Int) == 16) = true := by simpa using hl
            have hl2 : r.data.toList.length = 16 := by rw [size_data]; omega
            have hfin : letterOk 2 f 0 e y r.data.toList = true := by simp only [letterOk, he, hy, hr, hl2]; rfl
            clear hl hl2
            have HF := Lib.hid hfin
            clear hfin
            go_enter Try.func37, Try.ntmps37
            go_wp2_with (go_at_call 84; refine (sin_B _ _ _ _).mono ?_; rintro e w1 ⟨rfl, rfl⟩)
            go_ret
            exact ⟨by rw [HF.out]; rfl, (Below.refl _ _).alloc (Nat.le_refl _) _⟩
          · have hl1 : ((r.size : Int) == 16) = false := by simpa using hl
            have hl2 : (r.data.toList.length == 16) = false := by rw [size_data]; simp; omega
            have hfin : letterOk 2 f 0 e y r.data.toList = false := by simp only [letterOk, he, hy, hr, hl2]; rfl
            clear hl hl2
            have HF := Lib.hid hfin
            clear hfin
            go_enter Try.func37, Try.ntmps37
            go_wp2_with (go_at_call 84; refine (sin_B _ _ _ _).mono ?_; rintro e w1 ⟨rfl, rfl⟩)
            go_ret
            exact ⟨by rw [HF.out]; rfl, (Below.refl _ _).alloc (Nat.le_refl _) _⟩
      · have hz1 : (t == 0) = false := by simpa using hz
        have hz2 : (t != 0) = true := by simpa using hz
        have hfin : letterOk 2 f t e y r.data.toList = false := by simp [letterOk, hz]
        clear hz
        have HF := Lib.hid hfin
        clear hfin
        go_enter Try.func37, Try.ntmps37
        go_wp2_with (go_at_call 84; refine (sin_B _ _ _ _).mono ?_; rintro e w1 ⟨rfl, rfl⟩)
        go_ret
        exact ⟨by rw [HF.out]; rfl, (Below.refl _ _).alloc (Nat.le_refl _) _⟩

set_option maxRecDepth 100000 in
set_option maxHeartbeats 1000000 in
theorem sLetterOk_5 (f t e y : Int) (r : ByteArray) (w : World) :
    Calls Try.prog 37 #[.agg #[.int .i64 5, .int .i64 f, .int .i64 t, .int .i64 e, .int .i64 y, .string r]] w fun e' w' => e' = .returned (.bool (letterOk 5 f t e y r.data.toList)) ∧ Below w.heap.size w w' := by
  have hk5 : inB 5 1 5 = true := rfl
  cases he : inB e 1 4
  · skip
    have hfin : letterOk 5 f t e y r.data.toList = false := by simp [letterOk, he]
    have HF := Lib.hid hfin
    clear hfin
    go_enter Try.func37, Try.ntmps37
    go_wp2_with (go_at_call 84; refine (sin_B _ _ _ _).mono ?_; rintro e w1 ⟨rfl, rfl⟩)
    go_ret
    exact ⟨by rw [HF.out]; rfl, (Below.refl _ _).alloc (Nat.le_refl _) _⟩
  · cases hy : inB y 1 1000
    · skip
      have hfin : letterOk 5 f t e y r.data.toList = false := by simp [letterOk, hy]
      have HF := Lib.hid hfin
      clear hfin
      go_enter Try.func37, Try.ntmps37
      go_wp2_with (go_at_call 84; refine (sin_B _ _ _ _).mono ?_; rintro e w1 ⟨rfl, rfl⟩)
      go_ret
      exact ⟨by rw [HF.out]; rfl, (Below.refl _ _).alloc (Nat.le_refl _) _⟩
    · by_cases hz : t = 0
      · subst hz
        cases hr : inB f 1 4
        · skip
          have hfin : letterOk 5 f 0 e y r.data.toList = false := by simp [letterOk, he, hy, hr]
          have HF := Lib.hid hfin
          clear hfin
          go_enter Try.func37, Try.ntmps37
          go_wp2_with (go_at_call 84; refine (sin_B _ _ _ _).mono ?_; rintro e w1 ⟨rfl, rfl⟩)
          go_ret
          exact ⟨by rw [HF.out]; rfl, (Below.refl _ _).alloc (Nat.le_refl _) _⟩
        · cases hE : r.toList.isEmpty
          · have hE2 : r.data.toList.isEmpty = false := by rw [← toList_data]; exact hE
            have hfin : letterOk 5 f 0 e y r.data.toList = false := by simp only [letterOk, he, hy, hr, hE2]; rfl
            clear hE2
            have HF := Lib.hid hfin
            clear hfin
            go_enter Try.func37, Try.ntmps37
            go_wp2_with (go_at_call 84; refine (sin_B _ _ _ _).mono ?_; rintro e w1 ⟨rfl, rfl⟩)
            go_ret
            exact ⟨by rw [HF.out]; rfl, (Below.refl _ _).alloc (Nat.le_refl _) _⟩
          · have hE2 : r.data.toList.isEmpty = true := by rw [← toList_data]; exact hE
            have hfin : letterOk 5 f 0 e y r.data.toList = true := by simp only [letterOk, he, hy, hr, hE2]; rfl
            clear hE2
            have HF := Lib.hid hfin
            clear hfin
            go_enter Try.func37, Try.ntmps37
            go_wp2_with (go_at_call 84; refine (sin_B _ _ _ _).mono ?_; rintro e w1 ⟨rfl, rfl⟩)
            go_ret
            exact ⟨by rw [HF.out]; rfl, (Below.refl _ _).alloc (Nat.le_refl _) _⟩
      · have hz1 : (t == 0) = false := by simpa using hz
        have hz2 : (t != 0) = true := by simpa using hz
        have hfin : letterOk 5 f t e y r.data.toList = false := by simp [letterOk, hz]
        clear hz
        have HF := Lib.hid hfin
        clear hfin
        go_enter Try.func37, Try.ntmps37
        go_wp2_with (go_at_call 84; refine (sin_B _ _ _ _).mono ?_; rintro e w1 ⟨rfl, rfl⟩)
        go_ret
        exact ⟨by rw [HF.out]; rfl, (Below.refl _ _).alloc (Nat.le_refl _) _⟩

set_option maxRecDepth 100000 in
set_option maxHeartbeats 1000000 in
theorem sLetterOk_other (k f t e y : Int) (r : ByteArray) (w : World) (hk : ¬ (1 ≤ k ∧ k ≤ 5)) :
    Calls Try.prog 37 #[.agg #[.int .i64 k, .int .i64 f, .int .i64 t, .int .i64 e, .int .i64 y, .string r]] w fun e' w' => e' = .returned (.bool (letterOk k f t e y r.data.toList)) ∧ Below w.heap.size w w' := by
  have hfin : letterOk k f t e y r.data.toList = false := by
    have h1 : ¬ (k = 1 ∨ k = 3 ∨ k = 4) := by omega
    have h2 : ¬ k = 2 := by omega
    have h5 : ¬ k = 5 := by omega
    simp [letterOk, h1, h2, h5]
  have hk5 : inB k 1 5 = false := by simp only [inB, Bool.and_eq_false_iff, decide_eq_false_iff_not]; omega
  have HF := Lib.hid hfin
  clear hfin
  clear hk
  go_enter Try.func37, Try.ntmps37
  go_wp2_with (go_at_call 84; refine (sin_B _ _ _ _).mono ?_; rintro e w1 ⟨rfl, rfl⟩)
  go_ret
  exact ⟨by rw [HF.out]; rfl, (Below.refl _ _).alloc (Nat.le_refl _) _⟩

theorem sLetterOk_any (k f t e y : Int) (r : ByteArray) (w : World) :
    Calls Try.prog 37 #[.agg #[.int .i64 k, .int .i64 f, .int .i64 t, .int .i64 e, .int .i64 y, .string r]] w fun e' w' => e' = .returned (.bool (letterOk k f t e y r.data.toList)) ∧ Below w.heap.size w w' := by
  by_cases hk : 1 ≤ k ∧ k ≤ 5
  · rcases (show k = 1 ∨ k = 2 ∨ k = 3 ∨ k = 4 ∨ k = 5 from by omega) with rfl | rfl | rfl | rfl | rfl
    · exact sLetterOk_1 f t e y r w
    · exact sLetterOk_2 f t e y r w
    · exact sLetterOk_3 f t e y r w
    · exact sLetterOk_4 f t e y r w
    · exact sLetterOk_5 f t e y r w
  · exact sLetterOk_other k f t e y r w hk

end Go.Proofs.Ytkdajahiaedoiaa
