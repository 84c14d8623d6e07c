/- Names and values: the program's tests and the reference's. -/
import Derived.Test.YtkdajahiaedoiaaSpecWords
namespace Go.Proofs.Ytkdajahiaedoiaa
open Go.RowKit Pl
set_option linter.unusedVariables false

set_option maxRecDepth 100000 in
set_option maxHeartbeats 800000 in
theorem nameOk_any (s : ByteArray) (w : World) (hs : (s.size : Int) ≤ 1000000000) :
    Calls Try.prog 72 #[.string s] w fun e w' => e = .returned (.bool (nameOk s.data.toList)) ∧ w = w' := by
  go_enter Try.func72, Try.ntmps72
  go_wp2
  go_loop [3] (fun i => ∃ k : Nat, i = .int .i64 (k : Int) ∧ k ≤ s.size ∧ Hid (∀ j, j < k → nameN (nb s j) = true)) (fun i => s.size - (intOf i).toNat)
  case atStart => exact ⟨0, rfl, by omega, Lib.hid (fun j hj => absurd hj (by omega))⟩
  case round =>
    obtain ⟨k, rfl, hk, HK⟩ := hrel
    by_cases hin : k < s.size ∧ k ≤ 12
    · have hnb := get_nb s
      have hb1 := nb_le s k
      have hcase : (97 ≤ nb s k ∧ nb s k ≤ 122) ∨ (48 ≤ nb s k ∧ nb s k ≤ 57) ∨ (64 ≤ nb s k ∧ nb s k ≤ 64) ∨ (46 ≤ nb s k ∧ nb s k ≤ 46) ∨ (0 ≤ nb s k ∧ nb s k ≤ 45) ∨ (47 ≤ nb s k ∧ nb s k ≤ 47) ∨ (58 ≤ nb s k ∧ nb s k ≤ 63) ∨ (65 ≤ nb s k ∧ nb s k ≤ 96) ∨ (123 ≤ nb s k ∧ nb s k ≤ 255) := by omega
      have hgood : ∀ n : Nat, ((97 ≤ n ∧ n ≤ 122) ∨ (48 ≤ n ∧ n ≤ 57) ∨ n = 64 ∨ n = 46) → nameN n = true := by
        rintro n (h | h | h | h) <;> simp [nameN, h]
      have hbad : ¬ ((97 ≤ nb s k ∧ nb s k ≤ 122) ∨ (48 ≤ nb s k ∧ nb s k ≤ 57) ∨ nb s k = 64 ∨ nb s k = 46) → nameOk s.data.toList = false := by
        intro h
        refine allN_bad (f := nameN) hin.1 ?_
        simp only [nameN, Bool.or_eq_false_iff, Bool.and_eq_false_iff, decide_eq_false_iff_not, beq_eq_false_iff_ne]
        omega
      have HG := Lib.hid hgood
      have HBad := Lib.hid hbad
      clear hgood hbad
      rcases hcase with ⟨h1, h2⟩ | ⟨h1, h2⟩ | ⟨h1, h2⟩ | ⟨h1, h2⟩ | ⟨h1, h2⟩ | ⟨h1, h2⟩ | ⟨h1, h2⟩ | ⟨h1, h2⟩ | ⟨h1, h2⟩
      iterate 2
        · go_wp2
          go_round
          case rel => exact ⟨k + 1, by go_num, by omega, Lib.hid (fun j hj => by
            rcases Nat.lt_or_ge j k with h | h
            · exact HK.out j h
            · obtain rfl : j = k := by omega
              exact HG.out _ (by omega))⟩
          case measure => simp [intOf]; omega
      · have hn1 : (((nb s k : Nat) : Int) != 64) = false := by simp; omega
        go_wp2
        go_round
        case rel => exact ⟨k + 1, by go_num, by omega, Lib.hid (fun j hj => by
          rcases Nat.lt_or_ge j k with h | h
          · exact HK.out j h
          · obtain rfl : j = k := by omega
            exact HG.out _ (by omega))⟩
        case measure => simp [intOf]; omega
      · have hn1 : (((nb s k : Nat) : Int) != 64) = true := by simp; omega
        have hn2 : (((nb s k : Nat) : Int) != 46) = false := by simp; omega
        go_wp2
        go_round
        case rel => exact ⟨k + 1, by go_num, by omega, Lib.hid (fun j hj => by
          rcases Nat.lt_or_ge j k with h | h
          · exact HK.out j h
          · obtain rfl : j = k := by omega
            exact HG.out _ (by omega))⟩
        case measure => simp [intOf]; omega
      iterate 5
        · have hn1 : (((nb s k : Nat) : Int) != 64) = true := by simp; omega
          have hn2 : (((nb s k : Nat) : Int) != 46) = true := by simp; omega
          go_wp2
          go_ret
          exact ⟨by rw [HBad.out (by omega)]; rfl, rfl⟩
    · by_cases hr : 1 ≤ s.size ∧ s.size ≤ 12
      · obtain rfl : k = s.size := by omega
        have hfin : nameOk s.data.toList = true := allN_good HK.out hr.1 hr.2
        have HF := Lib.hid hfin
        clear hfin
        go_wp2_with (go_at_call 86; refine (in_yes _ _ _ _ (by omega) (by omega)).mono ?_; rintro e w1 ⟨rfl, rfl⟩)
        all_goals
          go_ret
          exact ⟨by rw [HF.out]; rfl, rfl⟩
      · have hfin : nameOk s.data.toList = false := allN_long hr
        have HF := Lib.hid hfin
        clear hfin
        go_wp2_with (go_at_call 86; refine (in_no _ _ _ _ (by omega)).mono ?_; rintro e w1 ⟨rfl, rfl⟩)
        all_goals
          go_ret
          exact ⟨by rw [HF.out]; rfl, rfl⟩

set_option maxRecDepth 100000 in
set_option maxHeartbeats 800000 in
theorem valueOk_any (s : ByteArray) (w : World) (hs : (s.size : Int) ≤ 1000000000) :
    Calls Try.prog 73 #[.string s] w fun e w' => e = .returned (.bool (valueOk s.data.toList)) ∧ w = w' := by
  go_enter Try.func73, Try.ntmps73
  go_wp2
  go_loop [3] (fun i => ∃ k : Nat, i = .int .i64 (k : Int) ∧ k ≤ s.size ∧ Hid (∀ j, j < k → valN (nb s j) = true)) (fun i => s.size - (intOf i).toNat)
  case atStart => exact ⟨0, rfl, by omega, Lib.hid (fun j hj => absurd hj (by omega))⟩
  case round =>
    obtain ⟨k, rfl, hk, HK⟩ := hrel
    by_cases hin : k < s.size ∧ k ≤ 12
    · have hnb := get_nb s
      have hb1 := nb_le s k
      by_cases hv : 33 ≤ nb s k ∧ nb s k ≤ 126
      · have HY := Lib.hid (show valN (nb s k) = true by simp [valN, hv.1, hv.2])
        go_wp2_with (go_at_call 86; refine (in_yes _ _ _ _ (by omega) (by omega)).mono ?_; rintro e w1 ⟨rfl, rfl⟩)
        go_round
        case rel => exact ⟨k + 1, by go_num, by omega, Lib.hid (fun j hj => by
          rcases Nat.lt_or_ge j k with h | h
          · exact HK.out j h
          · obtain rfl : j = k := by omega
            exact HY.out)⟩
        case measure => simp [intOf]; omega
      · have HY := Lib.hid (allN_bad (f := valN) hin.1 (by simp [valN]; omega))
        go_wp2_with (go_at_call 86; refine (in_no _ _ _ _ (by omega)).mono ?_; rintro e w1 ⟨rfl, rfl⟩)
        go_ret
        exact ⟨by rw [valueOk, HY.out]; rfl, rfl⟩
    · by_cases hr : 1 ≤ s.size ∧ s.size ≤ 12
      · obtain rfl : k = s.size := by omega
        have hfin : valueOk s.data.toList = true := allN_good HK.out hr.1 hr.2
        have HF := Lib.hid hfin
        clear hfin
        go_wp2_with (go_at_call 86; refine (in_yes _ _ _ _ (by omega) (by omega)).mono ?_; rintro e w1 ⟨rfl, rfl⟩)
        all_goals
          go_ret
          exact ⟨by rw [HF.out]; rfl, rfl⟩
      · have hfin : valueOk s.data.toList = false := allN_long hr
        have HF := Lib.hid hfin
        clear hfin
        go_wp2_with (go_at_call 86; refine (in_no _ _ _ _ (by omega)).mono ?_; rintro e w1 ⟨rfl, rfl⟩)
        all_goals
          go_ret
          exact ⟨by rw [HF.out]; rfl, rfl⟩

set_option maxRecDepth 100000 in
set_option maxHeartbeats 800000 in
theorem sNameOk_any (s : ByteArray) (w : World) (hs : (s.size : Int) ≤ 1000000000) :
    Calls Try.prog 94 #[.string s] w fun e w' => e = .returned (.bool (nameOk s.data.toList)) ∧ w = w' := by
  go_enter Try.func94, Try.ntmps94
  go_wp2
  go_loop [3] (fun i => ∃ k : Nat, i = .int .i64 (k : Int) ∧ k ≤ s.size ∧ Hid (∀ j, j < k → nameN (nb s j) = true)) (fun i => s.size - (intOf i).toNat)
  case atStart => exact ⟨0, rfl, by omega, Lib.hid (fun j hj => absurd hj (by omega))⟩
  case round =>
    obtain ⟨k, rfl, hk, HK⟩ := hrel
    by_cases hin : k < s.size
    · have hnb := get_nb s
      have hb1 := nb_le s k
      have hcase : (97 ≤ nb s k ∧ nb s k ≤ 122) ∨ (48 ≤ nb s k ∧ nb s k ≤ 57) ∨ (64 ≤ nb s k ∧ nb s k ≤ 64) ∨ (46 ≤ nb s k ∧ nb s k ≤ 46) ∨ (0 ≤ nb s k ∧ nb s k ≤ 45) ∨ (47 ≤ nb s k ∧ nb s k ≤ 47) ∨ (58 ≤ nb s k ∧ nb s k ≤ 63) ∨ (65 ≤ nb s k ∧ nb s k ≤ 96) ∨ (123 ≤ nb s k ∧ nb s k ≤ 255) := by omega
      have hgood : ∀ n : Nat, ((97 ≤ n ∧ n ≤ 122) ∨ (48 ≤ n ∧ n ≤ 57) ∨ n = 64 ∨ n = 46) → nameN n = true := by
        rintro n (h | h | h | h) <;> simp [nameN, h]
      have hbad : ¬ ((97 ≤ nb s k ∧ nb s k ≤ 122) ∨ (48 ≤ nb s k ∧ nb s k ≤ 57) ∨ nb s k = 64 ∨ nb s k = 46) → nameOk s.data.toList = false := by
        intro h
        refine allN_bad (f := nameN) hin ?_
        simp only [nameN, Bool.or_eq_false_iff, Bool.and_eq_false_iff, decide_eq_false_iff_not, beq_eq_false_iff_ne]
        omega
      have HG := Lib.hid hgood
      have HBad := Lib.hid hbad
      clear hgood hbad
      rcases hcase with ⟨h1, h2⟩ | ⟨h1, h2⟩ | ⟨h1, h2⟩ | ⟨h1, h2⟩ | ⟨h1, h2⟩ | ⟨h1, h2⟩ | ⟨h1, h2⟩ | ⟨h1, h2⟩ | ⟨h1, h2⟩
      iterate 2
        · go_wp2
          go_round
          case rel => exact ⟨k + 1, by go_num, by omega, Lib.hid (fun j hj => by
            rcases Nat.lt_or_ge j k with h | h
            · exact HK.out j h
            · obtain rfl : j = k := by omega
              exact HG.out _ (by omega))⟩
          case measure => simp [intOf]; omega
      · have hn1 : (((nb s k : Nat) : Int) != 64) = false := by simp; omega
        go_wp2
        go_round
        case rel => exact ⟨k + 1, by go_num, by omega, Lib.hid (fun j hj => by
          rcases Nat.lt_or_ge j k with h | h
          · exact HK.out j h
          · obtain rfl : j = k := by omega
            exact HG.out _ (by omega))⟩
        case measure => simp [intOf]; omega
      · have hn1 : (((nb s k : Nat) : Int) != 64) = true := by simp; omega
        have hn2 : (((nb s k : Nat) : Int) != 46) = false := by simp; omega
        go_wp2
        go_round
        case rel => exact ⟨k + 1, by go_num, by omega, Lib.hid (fun j hj => by
          rcases Nat.lt_or_ge j k with h | h
          · exact HK.out j h
          · obtain rfl : j = k := by omega
            exact HG.out _ (by omega))⟩
        case measure => simp [intOf]; omega
      iterate 5
        · have hn1 : (((nb s k : Nat) : Int) != 64) = true := by simp; omega
          have hn2 : (((nb s k : Nat) : Int) != 46) = true := by simp; omega
          go_wp2
          go_ret
          exact ⟨by rw [HBad.out (by omega)]; rfl, rfl⟩
    · by_cases hr : 1 ≤ s.size ∧ s.size ≤ 12
      · obtain rfl : k = s.size := by omega
        have hfin : nameOk s.data.toList = true := allN_good HK.out hr.1 hr.2
        have HF := Lib.hid hfin
        clear hfin
        go_wp2_with (go_at_call 84; refine (sin_yes _ _ _ _ (by omega) (by omega)).mono ?_; rintro e w1 ⟨rfl, rfl⟩)
        all_goals
          go_ret
          exact ⟨by rw [HF.out]; rfl, rfl⟩
      · have hfin : nameOk s.data.toList = false := allN_long hr
        have HF := Lib.hid hfin
        clear hfin
        go_wp2_with (go_at_call 84; refine (sin_no _ _ _ _ (by omega)).mono ?_; rintro e w1 ⟨rfl, rfl⟩)
        all_goals
          go_ret
          exact ⟨by rw [HF.out]; rfl, rfl⟩

set_option maxRecDepth 100000 in
set_option maxHeartbeats 800000 in
theorem sValueOk_any (s : ByteArray) (w : World) (hs : (s.size : Int) ≤ 1000000000) :
    Calls Try.prog 95 #[.string s] w fun e w' => e = .returned (.bool (valueOk s.data.toList)) ∧ w = w' := by
  go_enter Try.func95, Try.ntmps95
  go_wp2
  go_loop [3] (fun i => ∃ k : Nat, i = .int .i64 (k : Int) ∧ k ≤ s.size ∧ Hid (∀ j, j < k → valN (nb s j) = true)) (fun i => s.size - (intOf i).toNat)
  case atStart => exact ⟨0, rfl, by omega, Lib.hid (fun j hj => absurd hj (by omega))⟩
  case round =>
    obtain ⟨k, rfl, hk, HK⟩ := hrel
    by_cases hin : k < s.size
    · have hnb := get_nb s
      have hb1 := nb_le s k
      by_cases hv : 33 ≤ nb s k ∧ nb s k ≤ 126
      · have HY := Lib.hid (show valN (nb s k) = true by simp [valN, hv.1, hv.2])
        obtain ⟨hv1, hv2⟩ := hv
        go_wp2
        go_round
        case rel => exact ⟨k + 1, by go_num, by omega, Lib.hid (fun j hj => by
          rcases Nat.lt_or_ge j k with h | h
          · exact HK.out j h
          · obtain rfl : j = k := by omega
            exact HY.out)⟩
        case measure => simp [intOf]; omega
      · have HY := Lib.hid (allN_bad (f := valN) hin (by simp [valN]; omega))
        by_cases h33 : nb s k < 33
        · go_wp2
          go_ret
          exact ⟨by rw [valueOk, HY.out]; rfl, rfl⟩
        · go_wp2
          go_ret
          exact ⟨by rw [valueOk, HY.out]; rfl, rfl⟩
    · by_cases hr : 1 ≤ s.size ∧ s.size ≤ 12
      · obtain rfl : k = s.size := by omega
        have hfin : valueOk s.data.toList = true := allN_good HK.out hr.1 hr.2
        have HF := Lib.hid hfin
        clear hfin
        go_wp2_with (go_at_call 84; refine (sin_yes _ _ _ _ (by omega) (by omega)).mono ?_; rintro e w1 ⟨rfl, rfl⟩)
        all_goals
          go_ret
          exact ⟨by rw [HF.out]; rfl, rfl⟩
      · have hfin : valueOk s.data.toList = false := allN_long hr
        have HF := Lib.hid hfin
        clear hfin
        go_wp2_with (go_at_call 84; refine (sin_no _ _ _ _ (by omega)).mono ?_; rintro e w1 ⟨rfl, rfl⟩)
        all_goals
          go_ret
          exact ⟨by rw [HF.out]; rfl, rfl⟩

end Go.Proofs.Ytkdajahiaedoiaa
