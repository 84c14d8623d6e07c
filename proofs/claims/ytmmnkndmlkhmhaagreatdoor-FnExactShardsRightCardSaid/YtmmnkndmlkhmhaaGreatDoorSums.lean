/- Checksums: what both sides' functions compute. -/
import Derived.Test.YtmmnkndmlkhmhaaGreatDoorWa
import Derived.Test.YtmmnkndmlkhmhaaGreatDoorPlainA
import Derived.Deep.RegionHeld3
namespace Go.Proofs.YtmmnkndmlkhmhaaGreatDoor
open Go.RowKit Pl
set_option linter.unusedVariables false
set_option linter.unusedSimpArgs false

theorem fourB_cells {x : Nat} (hx : (x : Int) ≤ 4294967295) : (#[Value.int .u8 ((x : Int) / 16777216), .int .u8 ((x : Int) / 65536 % 256), .int .u8 ((x : Int) / 256 % 256), .int .u8 ((x : Int) % 256)]).toList = (fourB x).map bv := by
  simp [fourB, bv]; omega

set_option maxRecDepth 100000 in
set_option maxHeartbeats 800000 in
theorem sumMore_any (x0 : Nat) (s : ByteArray) (w : World) (hs : (s.size : Int) ≤ 1000000000) (hx : (x0 : Int) ≤ 4294967295) :
    Calls Tryz.prog 408 #[.int .u32 (x0 : Int), .string s] w fun e w' => e = .returned (.int .u32 ((sumMore x0 s.data.toList : Nat) : Int)) ∧ w = w' := by
  go_enter Tryz.func408, Tryz.ntmps408
  go_wp2
  go_loop [0, 5] (fun t i => ∃ k x : Nat, i = .int .i64 (k : Int) ∧ t = .int .u32 (x : Int) ∧ k ≤ s.size ∧ (x : Int) ≤ 4294967295 ∧ Hid (sumMore x0 (s.data.toList.take k) = x)) (fun _ i => s.size - (intOf i).toNat)
  case atStart => exact ⟨0, x0, rfl, rfl, by omega, hx, Lib.hid (by simp [sumMore])⟩
  case round =>
    obtain ⟨k, x, rfl, rfl, hk, hx1, HK⟩ := hrel
    by_cases hin : k < s.size
    · have hnb := get_nb s
      have hb1 := nb_le s k
      obtain ⟨b, hb, ht⟩ := take_snoc_nb s k hin
      have HB := Lib.hid hb
      have HT := Lib.hid ht
      clear hb ht
      go_wp2
      go_loop [0, 19] (fun t i => ∃ j y : Nat, i = .int .i64 (j : Int) ∧ t = .int .u32 (y : Int) ∧ j ≤ 8 ∧ (y : Int) ≤ 4294967295 ∧ Hid (stepN j (x ^^^ nb s k) = y)) (fun _ i => 8 - (intOf i).toNat)
      case atStart => exact ⟨0, x ^^^ nb s k, rfl, congrArg (Value.int .u32) (xr32 hx1 (by omega)), by omega, xor_lt hx1 (by omega), Lib.hid rfl⟩
      case round =>
        obtain ⟨j, y, rfl, rfl, hj, hy, HY⟩ := hrel
        by_cases h8 : j < 8
        · by_cases hodd : (y : Int) % 2 = 1
          · have hod : (bits .and .u32 (y : Int) 1 == 1) = true := by rw [and1_u32 hy]; simp; omega
            have HS := Lib.hid (show stepN (j + 1) (x ^^^ nb s k) = (y / 2) ^^^ 3558460437 by rw [stepN, HY.out, step1, if_pos (by omega)])
            go_wp2
            go_round
            case rel => exact ⟨j + 1, (y / 2) ^^^ 3558460437, by go_num, congrArg (Value.int .u32) (xr32_half hy), by omega, xor_lt (by omega) (by omega), HS⟩
            case measure => simp [intOf]; omega
          · have hod : (bits .and .u32 (y : Int) 1 == 1) = false := by rw [and1_u32 hy]; simp; omega
            have HS := Lib.hid (show stepN (j + 1) (x ^^^ nb s k) = y / 2 by rw [stepN, HY.out, step1, if_neg (by omega)])
            go_wp2
            go_round
            case rel => exact ⟨j + 1, y / 2, by go_num, by go_num, by omega, by omega, HS⟩
            case measure => simp [intOf]; omega
        · obtain rfl : j = 8 := by omega
          go_wp2
          go_round
          case rel => exact ⟨k + 1, y, by go_num, rfl, by omega, hy, Lib.hid (by rw [HT.out, sumMore_snoc, HK.out, HB.out, HY.out])⟩
          case measure => simp [intOf]; omega
    · go_wp2
      go_ret
      exact ⟨by rw [← HK.out, List.take_of_length_le (by rw [size_data]; omega)]; rfl, rfl⟩

set_option maxRecDepth 100000 in
set_option maxHeartbeats 400000 in
theorem sumOf_any (s : ByteArray) (w : World) (hs : (s.size : Int) ≤ 1000000000) :
    Calls Tryz.prog 364 #[.string s] w fun e w' => e = .returned (.int .u32 ((sumOf s.data.toList : Nat) : Int)) ∧ w = w' := by
  have hc := sumMore_any 4294967295 s w hs (by omega)
  have HC := Lib.hid hc
  clear hc
  go_enter Tryz.func364, Tryz.ntmps364
  go_wp2_with (go_at_call 408; refine HC.out.mono ?_; rintro e w1 ⟨rfl, rfl⟩)
  go_ret
  exact ⟨rfl, rfl⟩

set_option maxRecDepth 100000 in
set_option maxHeartbeats 400000 in
theorem sfourBytes_any (x : Nat) (w : World) (hx : (x : Int) ≤ 4294967295) :
    Calls Tryz.prog 271 #[.int .u32 (x : Int)] w fun e w' => e = .returned (.string (bs (fourB x))) ∧ Below w.heap.size w w' := by
  have hcv := (Byt.lit w #[.int .u8 ((x : Int) / 16777216), .int .u8 ((x : Int) / 65536 % 256), .int .u8 ((x : Int) / 256 % 256), .int .u8 ((x : Int) % 256)] (fourB x) 4 rfl (fourB_cells hx) (by simp [fourB])).string
  go_enter Tryz.func271, Tryz.ntmps271
  go_wp2
  go_ret
  exact ⟨rfl, (Below.refl _ w).alloc (Nat.le_refl _) _⟩

set_option maxRecDepth 100000 in
set_option maxHeartbeats 800000 in
theorem sSumMore_any (x0 : Nat) (s : ByteArray) (w : World) (hs : (s.size : Int) ≤ 1000000000) (hx : (x0 : Int) ≤ 4294967295) :
    Calls Tryz.prog 427 #[.int .u32 (x0 : Int), .string s] w fun e w' => e = .returned (.int .u32 ((sumMore x0 s.data.toList : Nat) : Int)) ∧ w = w' := by
  go_enter Tryz.func427, Tryz.ntmps427
  go_wp2
  go_loop [0, 5] (fun t i => ∃ k x : Nat, i = .int .i64 (k : Int) ∧ t = .int .u32 (x : Int) ∧ k ≤ s.size ∧ (x : Int) ≤ 4294967295 ∧ Hid (sumMore x0 (s.data.toList.take k) = x)) (fun _ i => s.size - (intOf i).toNat)
  case atStart => exact ⟨0, x0, rfl, rfl, by omega, hx, Lib.hid (by simp [sumMore])⟩
  case round =>
    obtain ⟨k, x, rfl, rfl, hk, hx1, HK⟩ := hrel
    by_cases hin : k < s.size
    · have hnb := get_nb s
      have hb1 := nb_le s k
      obtain ⟨b, hb, ht⟩ := take_snoc_nb s k hin
      have HB := Lib.hid hb
      have HT := Lib.hid ht
      clear hb ht
      go_wp2
      go_loop [0, 6] (fun t i => ∃ j y : Nat, i = .int .i64 (j : Int) ∧ t = .int .u32 (y : Int) ∧ j ≤ 8 ∧ (y : Int) ≤ 4294967295 ∧ Hid (stepN j (x ^^^ nb s k) = y)) (fun _ i => 8 - (intOf i).toNat)
      case atStart => exact ⟨0, x ^^^ nb s k, rfl, congrArg (Value.int .u32) (xr32 hx1 (by omega)), by omega, xor_lt hx1 (by omega), Lib.hid rfl⟩
      case round =>
        obtain ⟨j, y, rfl, rfl, hj, hy, HY⟩ := hrel
        by_cases h8 : j < 8
        · by_cases hodd : (y : Int) % 2 = 1
          · have HS := Lib.hid (show stepN (j + 1) (x ^^^ nb s k) = (y / 2) ^^^ 3558460437 by rw [stepN, HY.out, step1, if_pos (by omega)])
            go_wp2
            go_round
            case rel => exact ⟨j + 1, (y / 2) ^^^ 3558460437, by go_num, congrArg (Value.int .u32) (xr32_half hy), by omega, xor_lt (by omega) (by omega), HS⟩
            case measure => simp [intOf]; omega
          · have HS := Lib.hid (show stepN (j + 1) (x ^^^ nb s k) = y / 2 by rw [stepN, HY.out, step1, if_neg (by omega)])
            go_wp2
            go_round
            case rel => exact ⟨j + 1, y / 2, by go_num, by go_num, by omega, by omega, HS⟩
            case measure => simp [intOf]; omega
        · obtain rfl : j = 8 := by omega
          go_wp2
          go_round
          case rel => exact ⟨k + 1, y, by go_num, rfl, by omega, hy, Lib.hid (by rw [HT.out, sumMore_snoc, HK.out, HB.out, HY.out])⟩
          case measure => simp [intOf]; omega
    · go_wp2
      go_ret
      exact ⟨by rw [← HK.out, List.take_of_length_le (by rw [size_data]; omega)]; rfl, rfl⟩

set_option maxRecDepth 100000 in
set_option maxHeartbeats 400000 in
theorem sSumOf_any (s : ByteArray) (w : World) (hs : (s.size : Int) ≤ 1000000000) :
    Calls Tryz.prog 406 #[.string s] w fun e w' => e = .returned (.int .u32 ((sumOf s.data.toList : Nat) : Int)) ∧ w = w' := by
  have hc := sSumMore_any 4294967295 s w hs (by omega)
  have HC := Lib.hid hc
  clear hc
  go_enter Tryz.func406, Tryz.ntmps406
  go_wp2_with (go_at_call 427; refine HC.out.mono ?_; rintro e w1 ⟨rfl, rfl⟩)
  go_ret
  exact ⟨rfl, rfl⟩

set_option maxRecDepth 100000 in
set_option maxHeartbeats 400000 in
theorem sSfourBytes_any (x : Nat) (w : World) (hx : (x : Int) ≤ 4294967295) :
    Calls Tryz.prog 405 #[.int .u32 (x : Int)] w fun e w' => e = .returned (.string (bs (fourB x))) ∧ Below w.heap.size w w' := by
  have hcv := (Byt.lit w #[.int .u8 ((x : Int) / 16777216), .int .u8 ((x : Int) / 65536 % 256), .int .u8 ((x : Int) / 256 % 256), .int .u8 ((x : Int) % 256)] (fourB x) 4 rfl (fourB_cells hx) (by simp [fourB])).string
  go_enter Tryz.func405, Tryz.ntmps405
  go_wp2
  go_ret
  exact ⟨rfl, (Below.refl _ w).alloc (Nat.le_refl _) _⟩

/-- What Unsealed hands back. -/
def usVal : Option Bs → Value
  | none => .tuple #[.string (bs []), .bool false]
  | some l => .tuple #[.string (bs l), .bool true]

end Go.Proofs.YtmmnkndmlkhmhaaGreatDoor
