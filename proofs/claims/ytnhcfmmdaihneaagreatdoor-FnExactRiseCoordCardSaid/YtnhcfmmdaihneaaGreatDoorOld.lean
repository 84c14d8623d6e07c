/- Changes: the tests, the texts, the readers of both sides, and the law that they agree. The program's reader of fields: each of its methods, the reader's block known whole. The reference's reader of fields: each of its functions, the reader's block known whole. Changes: what both readers read. Checksums: what both sides' functions compute. -/
import Derived.Test.YtnhcfmmdaihneaaGreatDoorWa
import Derived.Deep.RegionHeld3
import Derived.Test.YtnhcfmmdaihneaaGreatDoorPlainM
namespace Go.Proofs.YtnhcfmmdaihneaaGreatDoor
set_option linter.unusedVariables false
set_option linter.unusedSimpArgs false
set_option linter.unusedSectionVars false
open Go.RowKit Pl
def z0z (id : Int) (n v : Bs) : Bool := (decide (1 ≤ id) && decide (id ≤ 99)) && z1j n && (v.isEmpty || z1a v)
end Go.Proofs.YtnhcfmmdaihneaaGreatDoor
namespace Go.Proofs.YtnhcfmmdaihneaaGreatDoor
set_option linter.unusedVariables false
set_option linter.unusedSimpArgs false
set_option linter.unusedSectionVars false
open Go.RowKit Pl
def Fld (w : World) (g : Nat) (s : ByteArray) (p : Nat) (bad : Bool) : Prop := Box w g 88 #[.string s, .int .i64 (p : Int), .bool bad]
theorem Fld.c0 {w : World} {g : Nat} {s : ByteArray} {p : Nat} {bad : Bool} (h : Fld w g s p bad) : w.cell? ⟨g, 0, none⟩ = some (.string s) := Box.cell h 0
theorem Fld.c1 {w : World} {g : Nat} {s : ByteArray} {p : Nat} {bad : Bool} (h : Fld w g s p bad) : w.cell? ⟨g, 1, none⟩ = some (.int .i64 (p : Int)) := Box.cell h 1
theorem Fld.c2 {w : World} {g : Nat} {s : ByteArray} {p : Nat} {bad : Bool} (h : Fld w g s p bad) : w.cell? ⟨g, 2, none⟩ = some (.bool bad) := Box.cell h 2
section
variable {g : Nat} {s : ByteArray} {p q n : Nat} {bad b : Bool} {l : Bs} {w : World} (hs : (s.size : Int) ≤ 1000000000) (hp : p ≤ s.size)
include hs hp
end
theorem Fld.new {w : World} {g : Nat} {s : ByteArray} (h : g = w.heap.size) : Fld (w.alloc (.cells #[.string s, .int .i64 0, .bool false] 88)) g s 0 false := by subst h; exact Box.new w _ _
end Go.Proofs.YtnhcfmmdaihneaaGreatDoor
namespace Go.Proofs.YtnhcfmmdaihneaaGreatDoor
set_option linter.unusedVariables false
set_option linter.unusedSimpArgs false
set_option linter.unusedSectionVars false
open Go.RowKit Pl
def Cur (w : World) (g : Nat) (s : ByteArray) (p : Nat) (bad : Bool) : Prop := Box w g 77 #[.string s, .int .i64 (p : Int), .bool bad]
theorem Cur.c0 {w : World} {g : Nat} {s : ByteArray} {p : Nat} {bad : Bool} (h : Cur w g s p bad) : w.cell? ⟨g, 0, none⟩ = some (.string s) := Box.cell h 0
theorem Cur.c1 {w : World} {g : Nat} {s : ByteArray} {p : Nat} {bad : Bool} (h : Cur w g s p bad) : w.cell? ⟨g, 1, none⟩ = some (.int .i64 (p : Int)) := Box.cell h 1
theorem Cur.c2 {w : World} {g : Nat} {s : ByteArray} {p : Nat} {bad : Bool} (h : Cur w g s p bad) : w.cell? ⟨g, 2, none⟩ = some (.bool bad) := Box.cell h 2
section
variable {g : Nat} {s : ByteArray} {p q n : Nat} {z : Int} {bad b : Bool} {l : Bs} {w : World} (hs : (s.size : Int) ≤ 1000000000) (hp : p ≤ s.size)
include hs hp
end
theorem Cur.new {w : World} {g : Nat} {s : ByteArray} {b : Bool} (h : g = w.heap.size) : Cur (w.alloc (.cells #[.string s, .int .i64 0, .bool b] 77)) g s 0 b := by subst h; exact Box.new w _ _
end Go.Proofs.YtnhcfmmdaihneaaGreatDoor
namespace Go.Proofs.YtnhcfmmdaihneaaGreatDoor
set_option linter.unusedVariables false
set_option linter.unusedSimpArgs false
set_option linter.unusedSectionVars false
open Go.RowKit Pl
end Go.Proofs.YtnhcfmmdaihneaaGreatDoor
namespace Go.Proofs.YtnhcfmmdaihneaaGreatDoor
set_option maxRecDepth 100000
set_option maxHeartbeats 800000
set_option linter.unusedVariables false
set_option linter.unusedSimpArgs false
set_option linter.unusedSectionVars false
open Go.RowKit Pl
theorem z7j {x : Nat} (hx : (x : Int) ≤ 4294967295) : (#[Value.int .u8 ((x : Int) / 16777216), .int .u8 ((x : Int) / 65536 % 256), .int .u8 ((x : Int) / 256 % 256), .int .u8 ((x : Int) % 256)]).toList = (z3n x).map bv := by
 simp [z3n, bv]; omega
theorem zbZ (x0 : Nat) (s : ByteArray) (w : World) (hs : (s.size : Int) ≤ 1000000000) (hx : (x0 : Int) ≤ 4294967295) :
 Calls Tryz.prog 270 #[.int .u32 (x0 : Int), .string s] w fun e w' => e = .returned (.int .u32 ((z2q x0 s.data.toList : Nat) : Int)) ∧ w = w' := by
 go_enter Tryz.func270, Tryz.ntmps270
 go_wp2
 go_loop [0, 5] (fun t i => ∃ k x : Nat, i = .int .i64 (k : Int) ∧ t = .int .u32 (x : Int) ∧ k ≤ s.size ∧ (x : Int) ≤ 4294967295 ∧ Hid (z2q x0 (s.data.toList.take k) = x)) (fun _ i => s.size - (intOf i).toNat)
 case atStart => exact ⟨0, x0, rfl, rfl, by omega, hx, Lib.hid (by simp [z2q])⟩
 case round =>
  obtain ⟨k, x, rfl, rfl, hk, hx1, HK⟩ := hrel
  by_cases hin : k < s.size
  ·have hnb := z5U s
   have hb1 := z9K s k
   obtain ⟨b, hb, ht⟩ := z60 s k hin
   have HB := Lib.hid hb
   have HT := Lib.hid ht
   clear hb ht
   go_wp2
   go_loop [0, 19] (fun t i => ∃ j y : Nat, i = .int .i64 (j : Int) ∧ t = .int .u32 (y : Int) ∧ j ≤ 8 ∧ (y : Int) ≤ 4294967295 ∧ Hid (z50 j (x ^^^ nb s k) = y)) (fun _ i => 8 - (intOf i).toNat)
   case atStart => exact ⟨0, x ^^^ nb s k, rfl, congrArg (Value.int .u32) (xr32 hx1 (by omega)), by omega, z8j hx1 (by omega), Lib.hid rfl⟩
   case round =>
    obtain ⟨j, y, rfl, rfl, hj, hy, HY⟩ := hrel
    by_cases h8 : j < 8
    ·by_cases hodd : (y : Int) % 2 = 1
     ·have hod : (bits .and .u32 (y : Int) 1 == 1) = true := by rw [zdj hy]; simp; omega
      have HS := Lib.hid (show z50 (j + 1) (x ^^^ nb s k) = (y / 2) ^^^ 3558460437 by rw [z50, HY.out, zbM, if_pos (by omega)])
      go_wp2
      go_round
      case rel => exact ⟨j + 1, (y / 2) ^^^ 3558460437, by go_num, congrArg (Value.int .u32) (zac hy), by omega, z8j (by omega) (by omega), HS⟩
      case measure => simp [intOf]; omega
     ·have hod : (bits .and .u32 (y : Int) 1 == 1) = false := by rw [zdj hy]; simp; omega
      have HS := Lib.hid (show z50 (j + 1) (x ^^^ nb s k) = y / 2 by rw [z50, HY.out, zbM, if_neg (by omega)])
      go_wp2
      go_round
      case rel => exact ⟨j + 1, y / 2, by go_num, by go_num, by omega, by omega, HS⟩
      case measure => simp [intOf]; omega
    ·obtain rfl : j = 8 := by omega
     go_wp2
     go_round
     case rel => exact ⟨k + 1, y, by go_num, rfl, by omega, hy, Lib.hid (by rw [HT.out, z5Z, HK.out, HB.out, HY.out])⟩
     case measure => simp [intOf]; omega
  ·go_wp2
   go_ret
   exact ⟨by rw [← HK.out, List.take_of_length_le (by rw [z0u]; omega)]; rfl, rfl⟩
theorem zgE (s : ByteArray) (w : World) (hs : (s.size : Int) ≤ 1000000000) :
 Calls Tryz.prog 245 #[.string s] w fun e w' => e = .returned (.int .u32 ((z3F s.data.toList : Nat) : Int)) ∧ w = w' := by
 have hc := zbZ 4294967295 s w hs (by omega)
 have HC := Lib.hid hc
 clear hc
 go_enter Tryz.func245, Tryz.ntmps245
 go_wp2_with (go_at_call 270; refine HC.out.mono ?_; rintro e w1 ⟨rfl, rfl⟩)
 go_ret
 exact ⟨rfl, rfl⟩
theorem z7V (x : Nat) (w : World) (hx : (x : Int) ≤ 4294967295) :
 Calls Tryz.prog 244 #[.int .u32 (x : Int)] w fun e w' => e = .returned (.string (bs (z3n x))) ∧ Below w.heap.size w w' := by
 have hcv := (Byt.lit w #[.int .u8 ((x : Int) / 16777216), .int .u8 ((x : Int) / 65536 % 256), .int .u8 ((x : Int) / 256 % 256), .int .u8 ((x : Int) % 256)] (z3n x) 4 rfl (z7j hx) (by simp [z3n])).string
 go_enter Tryz.func244, Tryz.ntmps244
 go_wp2
 go_ret
 exact ⟨rfl, (Below.refl _ w).alloc (Nat.le_refl _) _⟩
theorem zay (x0 : Nat) (s : ByteArray) (w : World) (hs : (s.size : Int) ≤ 1000000000) (hx : (x0 : Int) ≤ 4294967295) :
 Calls Tryz.prog 287 #[.int .u32 (x0 : Int), .string s] w fun e w' => e = .returned (.int .u32 ((z2q x0 s.data.toList : Nat) : Int)) ∧ w = w' := by
 go_enter Tryz.func287, Tryz.ntmps287
 go_wp2
 go_loop [0, 5] (fun t i => ∃ k x : Nat, i = .int .i64 (k : Int) ∧ t = .int .u32 (x : Int) ∧ k ≤ s.size ∧ (x : Int) ≤ 4294967295 ∧ Hid (z2q x0 (s.data.toList.take k) = x)) (fun _ i => s.size - (intOf i).toNat)
 case atStart => exact ⟨0, x0, rfl, rfl, by omega, hx, Lib.hid (by simp [z2q])⟩
 case round =>
  obtain ⟨k, x, rfl, rfl, hk, hx1, HK⟩ := hrel
  by_cases hin : k < s.size
  ·have hnb := z5U s
   have hb1 := z9K s k
   obtain ⟨b, hb, ht⟩ := z60 s k hin
   have HB := Lib.hid hb
   have HT := Lib.hid ht
   clear hb ht
   go_wp2
   go_loop [0, 6] (fun t i => ∃ j y : Nat, i = .int .i64 (j : Int) ∧ t = .int .u32 (y : Int) ∧ j ≤ 8 ∧ (y : Int) ≤ 4294967295 ∧ Hid (z50 j (x ^^^ nb s k) = y)) (fun _ i => 8 - (intOf i).toNat)
   case atStart => exact ⟨0, x ^^^ nb s k, rfl, congrArg (Value.int .u32) (xr32 hx1 (by omega)), by omega, z8j hx1 (by omega), Lib.hid rfl⟩
   case round =>
    obtain ⟨j, y, rfl, rfl, hj, hy, HY⟩ := hrel
    by_cases h8 : j < 8
    ·by_cases hodd : (y : Int) % 2 = 1
     ·have HS := Lib.hid (show z50 (j + 1) (x ^^^ nb s k) = (y / 2) ^^^ 3558460437 by rw [z50, HY.out, zbM, if_pos (by omega)])
      go_wp2
      go_round
      case rel => exact ⟨j + 1, (y / 2) ^^^ 3558460437, by go_num, congrArg (Value.int .u32) (zac hy), by omega, z8j (by omega) (by omega), HS⟩
      case measure => simp [intOf]; omega
     ·have HS := Lib.hid (show z50 (j + 1) (x ^^^ nb s k) = y / 2 by rw [z50, HY.out, zbM, if_neg (by omega)])
      go_wp2
      go_round
      case rel => exact ⟨j + 1, y / 2, by go_num, by go_num, by omega, by omega, HS⟩
      case measure => simp [intOf]; omega
    ·obtain rfl : j = 8 := by omega
     go_wp2
     go_round
     case rel => exact ⟨k + 1, y, by go_num, rfl, by omega, hy, Lib.hid (by rw [HT.out, z5Z, HK.out, HB.out, HY.out])⟩
     case measure => simp [intOf]; omega
  ·go_wp2
   go_ret
   exact ⟨by rw [← HK.out, List.take_of_length_le (by rw [z0u]; omega)]; rfl, rfl⟩
theorem zeH (s : ByteArray) (w : World) (hs : (s.size : Int) ≤ 1000000000) :
 Calls Tryz.prog 266 #[.string s] w fun e w' => e = .returned (.int .u32 ((z3F s.data.toList : Nat) : Int)) ∧ w = w' := by
 have hc := zay 4294967295 s w hs (by omega)
 have HC := Lib.hid hc
 clear hc
 go_enter Tryz.func266, Tryz.ntmps266
 go_wp2_with (go_at_call 287; refine HC.out.mono ?_; rintro e w1 ⟨rfl, rfl⟩)
 go_ret
 exact ⟨rfl, rfl⟩
theorem z7k (x : Nat) (w : World) (hx : (x : Int) ≤ 4294967295) :
 Calls Tryz.prog 265 #[.int .u32 (x : Int)] w fun e w' => e = .returned (.string (bs (z3n x))) ∧ Below w.heap.size w w' := by
 have hcv := (Byt.lit w #[.int .u8 ((x : Int) / 16777216), .int .u8 ((x : Int) / 65536 % 256), .int .u8 ((x : Int) / 256 % 256), .int .u8 ((x : Int) % 256)] (z3n x) 4 rfl (z7j hx) (by simp [z3n])).string
 go_enter Tryz.func265, Tryz.ntmps265
 go_wp2
 go_ret
 exact ⟨rfl, (Below.refl _ w).alloc (Nat.le_refl _) _⟩
end Go.Proofs.YtnhcfmmdaihneaaGreatDoor
