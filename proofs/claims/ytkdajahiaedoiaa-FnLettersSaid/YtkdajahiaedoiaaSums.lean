/- Checksums: what both sides' functions compute. -/
import Derived.Test.YtkdajahiaedoiaaWords
import Derived.Test.YtkdajahiaedoiaaPlainSum
import Derived.Deep.RegionHeld3
namespace Go.Proofs.Ytkdajahiaedoiaa
open Go.RowKit Pl
set_option linter.unusedVariables false

theorem fourB_cells {x : Nat} (hx : (x : Int) ≤ 4294967295) : (#[Value.int .u8 ((x : Int) / 16777216), .int .u8 ((x : Int) / 65536 % 256), .int .u8 ((x : Int) / 256 % 256), .int .u8 ((x : Int) % 256)]).toList = (fourB x).map bv := by
  simp [fourB, bv]; omega

set_option maxRecDepth 100000 in
set_option maxHeartbeats 800000 in
theorem sumMore_any (x0 : Nat) (s : ByteArray) (w : World) (hs : (s.size : Int) ≤ 1000000000) (hx : (x0 : Int) ≤ 4294967295) :
    Calls Try.prog 121 #[.int .u32 (x0 : Int), .string s] w fun e w' => e = .returned (.int .u32 ((sumMore x0 s.data.toList : Nat) : Int)) ∧ w = w' := by
  go_enter Try.func121, Try.ntmps121
  go_wp2
  go_loop [0, 5] (fun t i => ∃ k x : Nat, i = .int .i64 (k : Int) ∧ t = .int .u32 (x : Int) ∧ k ≤ s.size ∧ (x : Int) ≤ 4294967295 ∧ Hid (sumMore x0 (s.data.toList.take k) = x)) (fun _ i => s.size - (intOf i).toNat)
  case atStart => exact ⟨0, x0, rfl, rfl, by omega, hx, Lib.hid (by simp [sumMore])⟩
  case round =>
    obtain ⟨k, x, rfl, rfl, hk, hx1, HK⟩ := hrel
    by_cases hin : k < s.size
    · have hnb := get_nb s
      have hb1 := nb_le s k
      obtain ⟨b, hb, ht⟩ := take_snoc_nb s k hin
      have HB := Lib.hid hb
      have HT := Lib.hid ht
      clear hb ht
      go_wp2
      go_loop [0, 19] (fun t i => ∃ j y : Nat, i = .int .i64 (j : Int) ∧ t = .int .u32 (y : Int) ∧ j ≤ 8 ∧ (y : Int) ≤ 4294967295 ∧ Hid (stepN j (x ^^^ nb s k) = y)) (fun _ i => 8 - (intOf i).toNat)
      case atStart => exact ⟨0, x ^^^ nb s k, rfl, congrArg (Value.int .u32) (xr32 hx1 (by omega)), by omega, xor_lt hx1 (by omega), Lib.hid rfl⟩
      case round =>
        obtain ⟨j, y, rfl, rfl, hj, hy, HY⟩ := hrel
        by_cases h8 : j < 8
        · by_cases hodd : (y : Int) % 2 = 1
          · have hod : (bits .and .u32 (y : Int) 1 == 1) = true := by rw [and1_u32 hy]; simp; omega
            have HS := Lib.hid (show stepN (j + 1) (x ^^^ nb s k) = (y / 2) ^^^ 3558460437 by rw [stepN, HY.out, step1, if_pos (by omega)])
            go_wp2
            go_round
            case rel => exact ⟨j + 1, (y / 2) ^^^ 3558460437, by go_num, congrArg (Value.int .u32) (xr32_half hy), by omega, xor_lt (by omega) (by omega), HS⟩
            case measure => simp [intOf]; omega
          · have hod : (bits .and .u32 (y : Int) 1 == 1) = false := by rw [and1_u32 hy]; simp; omega
            have HS := Lib.hid (show stepN (j + 1) (x ^^^ nb s k) = y / 2 by rw [stepN, HY.out, step1, if_neg (by omega)])
            go_wp2
            go_round
            case rel => exact ⟨j + 1, y / 2, by go_num, by go_num, by omega, by omega, HS⟩
            case measure => simp [intOf]; omega
        · obtain rfl : j = 8 := by omega
          go_wp2
          go_round
          case rel => exact ⟨k + 1, y, by go_num, rfl, by omega, hy, Lib.hid (by rw [HT.out, sumMore_snoc, HK.out, HB.out, HY.out])⟩
          case measure => simp [intOf]; omega
    · go_wp2
      go_ret
      exact ⟨by rw [← HK.out, List.take_of_length_le (by rw [size_data]; omega)]; rfl, rfl⟩

set_option maxRecDepth 100000 in
set_option maxHeartbeats 400000 in
theorem sumOf_any (s : ByteArray) (w : World) (hs : (s.size : Int) ≤ 1000000000) :
    Calls Try.prog 105 #[.string s] w fun e w' => e = .returned (.int .u32 ((sumOf s.data.toList : Nat) : Int)) ∧ w = w' := by
  have hc := sumMore_any 4294967295 s w hs (by omega)
  have HC := Lib.hid hc
  clear hc
  go_enter Try.func105, Try.ntmps105
  go_wp2_with (go_at_call 121; refine HC.out.mono ?_; rintro e w1 ⟨rfl, rfl⟩)
  go_ret
  exact ⟨rfl, rfl⟩

set_option maxRecDepth 100000 in
set_option maxHeartbeats 400000 in
theorem sfourBytes_any (x : Nat) (w : World) (hx : (x : Int) ≤ 4294967295) :
    Calls Try.prog 104 #[.int .u32 (x : Int)] w fun e w' => e = .returned (.string (bs (fourB x))) ∧ Below w.heap.size w w' := by
  have hcv := (Byt.lit w #[.int .u8 ((x : Int) / 16777216), .int .u8 ((x : Int) / 65536 % 256), .int .u8 ((x : Int) / 256 % 256), .int .u8 ((x : Int) % 256)] (fourB x) 4 rfl (fourB_cells hx) (by simp [fourB])).string
  go_enter Try.func104, Try.ntmps104
  go_wp2
  go_ret
  exact ⟨rfl, (Below.refl _ w).alloc (Nat.le_refl _) _⟩

set_option maxRecDepth 100000 in
set_option maxHeartbeats 800000 in
theorem sSumMore_any (x0 : Nat) (s : ByteArray) (w : World) (hs : (s.size : Int) ≤ 1000000000) (hx : (x0 : Int) ≤ 4294967295) :
    Calls Try.prog 120 #[.int .u32 (x0 : Int), .string s] w fun e w' => e = .returned (.int .u32 ((sumMore x0 s.data.toList : Nat) : Int)) ∧ w = w' := by
  go_enter Try.func120, Try.ntmps120
  go_wp2
  go_loop [0, 5] (fun t i => ∃ k x : Nat, i = .int .i64 (k : Int) ∧ t = .int .u32 (x : Int) ∧ k ≤ s.size ∧ (x : Int) ≤ 4294967295 ∧ Hid (sumMore x0 (s.data.toList.take k) = x)) (fun _ i => s.size - (intOf i).toNat)
  case atStart => exact ⟨0, x0, rfl, rfl, by omega, hx, Lib.hid (by simp [sumMore])⟩
  case round =>
    obtain ⟨k, x, rfl, rfl, hk, hx1, HK⟩ := hrel
    by_cases hin : k < s.size
    · have hnb := get_nb s
      have hb1 := nb_le s k
      obtain ⟨b, hb, ht⟩ := take_snoc_nb s k hin
      have HB := Lib.hid hb
      have HT := Lib.hid ht
      clear hb ht
      go_wp2
      go_loop [0, 6] (fun t i => ∃ j y : Nat, i = .int .i64 (j : Int) ∧ t = .int .u32 (y : Int) ∧ j ≤ 8 ∧ (y : Int) ≤ 4294967295 ∧ Hid (stepN j (x ^^^ nb s k) = y)) (fun _ i => 8 - (intOf i).toNat)
      case atStart => exact ⟨0, x ^^^ nb s k, rfl, congrArg (Value.int .u32) (xr32 hx1 (by omega)), by omega, xor_lt hx1 (by omega), Lib.hid rfl⟩
      case round =>
        obtain ⟨j, y, rfl, rfl, hj, hy, HY⟩ := hrel
        by_cases h8 : j < 8
        · by_cases hodd : (y : Int) % 2 = 1
          · have HS := Lib.hid (show stepN (j + 1) (x ^^^ nb s k) = (y / 2) ^^^ 3558460437 by rw [stepN, HY.out, step1, if_pos (by omega)])
            go_wp2
            go_round
            case rel => exact ⟨j + 1, (y / 2) ^^^ 3558460437, by go_num, congrArg (Value.int .u32) (xr32_half hy), by omega, xor_lt (by omega) (by omega), HS⟩
            case measure => simp [intOf]; omega
          · have HS := Lib.hid (show stepN (j + 1) (x ^^^ nb s k) = y / 2 by rw [stepN, HY.out, step1, if_neg (by omega)])
            go_wp2
            go_round
            case rel => exact ⟨j + 1, y / 2, by go_num, by go_num, by omega, by omega, HS⟩
            case measure => simp [intOf]; omega
        · obtain rfl : j = 8 := by omega
          go_wp2
          go_round
          case rel => exact ⟨k + 1, y, by go_num, rfl, by omega, hy, Lib.hid (by rw [HT.out, sumMore_snoc, HK.out, HB.out, HY.out])⟩
          case measure => simp [intOf]; omega
    · go_wp2
      go_ret
      exact ⟨by rw [← HK.out, List.take_of_length_le (by rw [size_data]; omega)]; rfl, rfl⟩

set_option maxRecDepth 100000 in
set_option maxHeartbeats 400000 in
theorem sSumOf_any (s : ByteArray) (w : World) (hs : (s.size : Int) ≤ 1000000000) :
    Calls Try.prog 103 #[.string s] w fun e w' => e = .returned (.int .u32 ((sumOf s.data.toList : Nat) : Int)) ∧ w = w' := by
  have hc := sSumMore_any 4294967295 s w hs (by omega)
  have HC := Lib.hid hc
  clear hc
  go_enter Try.func103, Try.ntmps103
  go_wp2_with (go_at_call 120; refine HC.out.mono ?_; rintro e w1 ⟨rfl, rfl⟩)
  go_ret
  exact ⟨rfl, rfl⟩

set_option maxRecDepth 100000 in
set_option maxHeartbeats 400000 in
theorem sSfourBytes_any (x : Nat) (w : World) (hx : (x : Int) ≤ 4294967295) :
    Calls Try.prog 102 #[.int .u32 (x : Int)] w fun e w' => e = .returned (.string (bs (fourB x))) ∧ Below w.heap.size w w' := by
  have hcv := (Byt.lit w #[.int .u8 ((x : Int) / 16777216), .int .u8 ((x : Int) / 65536 % 256), .int .u8 ((x : Int) / 256 % 256), .int .u8 ((x : Int) % 256)] (fourB x) 4 rfl (fourB_cells hx) (by simp [fourB])).string
  go_enter Try.func102, Try.ntmps102
  go_wp2
  go_ret
  exact ⟨rfl, (Below.refl _ w).alloc (Nat.le_refl _) _⟩

/-- What Unsealed hands back. -/
def usVal : Option Bs → Value
  | none => .tuple #[.string (bs []), .bool false]
  | some l => .tuple #[.string (bs l), .bool true]

set_option maxRecDepth 100000 in
set_option maxHeartbeats 400000 in
theorem unsealed_any (s : ByteArray) (w : World) (hs : (s.size : Int) ≤ 1000000000) :
    Calls Try.prog 60 #[.string s] w fun e w' => e = .returned (usVal (unsealed s.data.toList)) ∧ Below w.heap.size w w' := by
  by_cases h4 : (s.size : Int) - 4 < 0
  · have hfin : unsealed s.data.toList = none := by rw [unsealed, size_data, if_neg (by omega)]
    have hd : decide ((s.size : Int) - 4 < 0) = true := by simpa using h4
    have HF := Lib.hid hfin
    clear hfin
    go_enter Try.func60, Try.ntmps60
    go_wp2
    go_quiet (fail)
    go_wp2
    go_ret2
    exact ⟨by rw [HF.out]; rfl, below_drewN (Below.refl _ _) _⟩
  · obtain ⟨n, hn⟩ : ∃ n : Nat, (s.size : Int) - 4 = (n : Int) := ⟨s.size - 4, by omega⟩
    have hd0 : decide ((n : Int) < 0) = false := by simp
    have hns : s.size - 4 = n := by omega
    have hnl : (n : Int) ≤ (s.size : Int) := by omega
    clear h4
    by_cases hb : 20000 < (n : Int)
    · have hfin : unsealed s.data.toList = none := by rw [unsealed, size_data, if_neg (by omega)]
      have hd : decide (20000 < (n : Int)) = true := by simpa using hb
      have HF := Lib.hid hfin
      have HNS := Lib.hid hns
      clear hfin hns
      go_enter Try.func60, Try.ntmps60
      go_wp2
      go_quiet (fail)
      go_wp2
      go_ret2
      exact ⟨by rw [HF.out]; rfl, below_drewN (Below.refl _ _) _⟩
    · have hd : decide (20000 < (n : Int)) = false := by simpa using hb
      have e1 : (s.extract n s.size).data.toList = s.data.toList.drop n := by
        rw [data_extract, List.take_of_length_le (by simp)]
      have e2 : (s.extract 0 n).data.toList = s.data.toList.take n := by rw [data_extract]; rfl
      have hsz : ((s.extract 0 n).size : Int) ≤ 1000000000 := by rw [← size_data, e2]; simp; omega
      by_cases heq : s.data.toList.drop n = fourB (sumOf (s.data.toList.take n))
      · have hfin : unsealed s.data.toList = some (s.data.toList.take n) := by rw [unsealed, size_data, hns, if_pos ⟨by omega, by omega, heq⟩]
        have he : ((s.extract n s.size).toList == (bs (fourB (sumOf (s.data.toList.take n)))).toList) = true := by rw [toList_data, toList_data, bs_data, e1, beq_iff_eq]; exact heq
        have e3 : s.extract 0 n = bs (s.data.toList.take n) := data_ext (by rw [e2, bs_data])
        have HF := Lib.hid hfin
        have HNS := Lib.hid hns
        have H1 := Lib.hid e1
        have H2 := Lib.hid e2
        have HE := Lib.hid heq
        have H3 := Lib.hid e3
        clear hfin hns e1 e2 heq e3
        go_enter Try.func60, Try.ntmps60
        go_wp2
        go_region_held3 (fun W => Below w.heap.size w W) (first | exact (Below.refl _ _).drew | assumption | exact Below.trans (by assumption) (Below.mono hb' (by exact (Below.size (by assumption))))) (first | (go_at_call 105; refine (sumOf_any _ _ hsz).mono ?_; rintro e w2 ⟨rfl, rfl⟩) | (go_at_call 104; refine (sfourBytes_any _ _ (sumOf_lt _)).mono ?_; rintro e w2 ⟨rfl, hb'⟩) | fail)
        rename Below _ _ _ => hB
        go_wp2
        go_ret2
        exact ⟨by rw [HF.out, usVal, ← H3.out]; rfl, by assumption⟩
      · have hfin : unsealed s.data.toList = none := by rw [unsealed, size_data, hns, if_neg (by rintro ⟨_, _, h⟩; exact heq h)]
        have he : ((s.extract n s.size).toList == (bs (fourB (sumOf (s.data.toList.take n)))).toList) = false := by rw [toList_data, toList_data, bs_data, e1, beq_eq_false_iff_ne]; exact heq
        have HF := Lib.hid hfin
        have HNS := Lib.hid hns
        have H1 := Lib.hid e1
        have H2 := Lib.hid e2
        have HE := Lib.hid heq
        clear hfin hns e1 e2 heq
        go_enter Try.func60, Try.ntmps60
        go_wp2
        go_region_held3 (fun W => Below w.heap.size w W) (first | exact (Below.refl _ _).drew | assumption | exact Below.trans (by assumption) (Below.mono hb' (by exact (Below.size (by assumption))))) (first | (go_at_call 105; refine (sumOf_any _ _ hsz).mono ?_; rintro e w2 ⟨rfl, rfl⟩) | (go_at_call 104; refine (sfourBytes_any _ _ (sumOf_lt _)).mono ?_; rintro e w2 ⟨rfl, hb'⟩) | fail)
        rename Below _ _ _ => hB
        go_wp2
        go_ret2
        exact ⟨by rw [HF.out]; rfl, by assumption⟩

set_option maxRecDepth 100000 in
set_option maxHeartbeats 400000 in
theorem sUnsealed_any (s : ByteArray) (w : World) (hs : (s.size : Int) ≤ 1000000000) :
    Calls Try.prog 57 #[.string s] w fun e w' => e = .returned (usVal (unsealed s.data.toList)) ∧ Below w.heap.size w w' := by
  by_cases h4 : (s.size : Int) - 4 < 0
  · have hfin : unsealed s.data.toList = none := by rw [unsealed, size_data, if_neg (by omega)]
    have hd : decide ((s.size : Int) - 4 < 0) = true := by simpa using h4
    have HF := Lib.hid hfin
    clear hfin
    go_enter Try.func57, Try.ntmps57
    go_wp2
    go_quiet (fail)
    go_wp2
    go_ret2
    exact ⟨by rw [HF.out]; rfl, below_drewN (Below.refl _ _) _⟩
  · obtain ⟨n, hn⟩ : ∃ n : Nat, (s.size : Int) - 4 = (n : Int) := ⟨s.size - 4, by omega⟩
    have hd0 : decide ((n : Int) < 0) = false := by simp
    have hns : s.size - 4 = n := by omega
    have hnl : (n : Int) ≤ (s.size : Int) := by omega
    clear h4
    by_cases hb : 20000 < (n : Int)
    · have hfin : unsealed s.data.toList = none := by rw [unsealed, size_data, if_neg (by omega)]
      have hd : decide (20000 < (n : Int)) = true := by simpa using hb
      have HF := Lib.hid hfin
      have HNS := Lib.hid hns
      clear hfin hns
      go_enter Try.func57, Try.ntmps57
      go_wp2
      go_quiet (fail)
      go_wp2
      go_ret2
      exact ⟨by rw [HF.out]; rfl, below_drewN (Below.refl _ _) _⟩
    · have hd : decide (20000 < (n : Int)) = false := by simpa using hb
      have e1 : (s.extract n s.size).data.toList = s.data.toList.drop n := by
        rw [data_extract, List.take_of_length_le (by simp)]
      have e2 : (s.extract 0 n).data.toList = s.data.toList.take n := by rw [data_extract]; rfl
      have hsz : ((s.extract 0 n).size : Int) ≤ 1000000000 := by rw [← size_data, e2]; simp; omega
      by_cases heq : s.data.toList.drop n = fourB (sumOf (s.data.toList.take n))
      · have hfin : unsealed s.data.toList = some (s.data.toList.take n) := by rw [unsealed, size_data, hns, if_pos ⟨by omega, by omega, heq⟩]
        have he : ((s.extract n s.size).toList == (bs (fourB (sumOf (s.data.toList.take n)))).toList) = true := by rw [toList_data, toList_data, bs_data, e1, beq_iff_eq]; exact heq
        have e3 : s.extract 0 n = bs (s.data.toList.take n) := data_ext (by rw [e2, bs_data])
        have HF := Lib.hid hfin
        have HNS := Lib.hid hns
        have H1 := Lib.hid e1
        have H2 := Lib.hid e2
        have HE := Lib.hid heq
        have H3 := Lib.hid e3
        clear hfin hns e1 e2 heq e3
        go_enter Try.func57, Try.ntmps57
        go_wp2
        go_region_held3 (fun W => Below w.heap.size w W) (first | exact (Below.refl _ _).drew | assumption | exact Below.trans (by assumption) (Below.mono hb' (by exact (Below.size (by assumption))))) (first | (go_at_call 103; refine (sSumOf_any _ _ hsz).mono ?_; rintro e w2 ⟨rfl, rfl⟩) | (go_at_call 102; refine (sSfourBytes_any _ _ (sumOf_lt _)).mono ?_; rintro e w2 ⟨rfl, hb'⟩) | fail)
        rename Below _ _ _ => hB
        go_wp2
        go_ret2
        exact ⟨by rw [HF.out, usVal, ← H3.out]; rfl, by assumption⟩
      · have hfin : unsealed s.data.toList = none := by rw [unsealed, size_data, hns, if_neg (by rintro ⟨_, _, h⟩; exact heq h)]
        have he : ((s.extract n s.size).toList == (bs (fourB (sumOf (s.data.toList.take n)))).toList) = false := by rw [toList_data, toList_data, bs_data, e1, beq_eq_false_iff_ne]; exact heq
        have HF := Lib.hid hfin
        have HNS := Lib.hid hns
        have H1 := Lib.hid e1
        have H2 := Lib.hid e2
        have HE := Lib.hid heq
        clear hfin hns e1 e2 heq
        go_enter Try.func57, Try.ntmps57
        go_wp2
        go_region_held3 (fun W => Below w.heap.size w W) (first | exact (Below.refl _ _).drew | assumption | exact Below.trans (by assumption) (Below.mono hb' (by exact (Below.size (by assumption))))) (first | (go_at_call 103; refine (sSumOf_any _ _ hsz).mono ?_; rintro e w2 ⟨rfl, rfl⟩) | (go_at_call 102; refine (sSfourBytes_any _ _ (sumOf_lt _)).mono ?_; rintro e w2 ⟨rfl, hb'⟩) | fail)
        rename Below _ _ _ => hB
        go_wp2
        go_ret2
        exact ⟨by rw [HF.out]; rfl, by assumption⟩
end Go.Proofs.Ytkdajahiaedoiaa
