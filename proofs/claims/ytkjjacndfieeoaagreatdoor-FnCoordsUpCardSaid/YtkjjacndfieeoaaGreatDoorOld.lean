/- Changes: the tests, the texts, the readers of both sides, and the law that they agree. The program's reader of fields: each of its methods, the reader's block known whole. The reference's reader of fields: each of its functions, the reader's block known whole. Changes: what both readers read. Checksums: what both sides' functions compute. -/
import Derived.Test.YtkjjacndfieeoaaGreatDoorWax
import Derived.Deep.RegionHeld3
import Derived.Test.YtkjjacndfieeoaaGreatDoorPlainM
namespace Go.Proofs.YtkjjacndfieeoaaGreatDoor
set_option linter.unusedVariables false
set_option linter.unusedSimpArgs false
set_option linter.unusedSectionVars false
open Go.RowKit Pl
def z8w (id : Int) (n v : Bs) : Bool := (decide (1 ≤ id) && decide (id ≤ 99)) && z4V n && (v.isEmpty || z5C v)
end Go.Proofs.YtkjjacndfieeoaaGreatDoor
namespace Go.Proofs.YtkjjacndfieeoaaGreatDoor
set_option linter.unusedVariables false
set_option linter.unusedSimpArgs false
set_option linter.unusedSectionVars false
open Go.RowKit Pl
def Fld (w : World) (g : Nat) (s : ByteArray) (p : Nat) (bad : Bool) : Prop := Box w g 148 #[.string s, .int .i64 (p : Int), .bool bad]
theorem Fld.c0 {w : World} {g : Nat} {s : ByteArray} {p : Nat} {bad : Bool} (h : Fld w g s p bad) : w.cell? ⟨g, 0, none⟩ = some (.string s) := Box.cell h 0
theorem Fld.c1 {w : World} {g : Nat} {s : ByteArray} {p : Nat} {bad : Bool} (h : Fld w g s p bad) : w.cell? ⟨g, 1, none⟩ = some (.int .i64 (p : Int)) := Box.cell h 1
theorem Fld.c2 {w : World} {g : Nat} {s : ByteArray} {p : Nat} {bad : Bool} (h : Fld w g s p bad) : w.cell? ⟨g, 2, none⟩ = some (.bool bad) := Box.cell h 2
section
variable {g : Nat} {s : ByteArray} {p q n : Nat} {bad b : Bool} {l : Bs} {w : World} (hs : (s.size : Int) ≤ 1000000000) (hp : p ≤ s.size)
include hs hp
end
theorem Fld.new {w : World} {g : Nat} {s : ByteArray} (h : g = w.heap.size) : Fld (w.alloc (.cells #[.string s, .int .i64 0, .bool false] 148)) g s 0 false := by subst h; exact Box.new w _ _
end Go.Proofs.YtkjjacndfieeoaaGreatDoor
namespace Go.Proofs.YtkjjacndfieeoaaGreatDoor
set_option linter.unusedVariables false
set_option linter.unusedSimpArgs false
set_option linter.unusedSectionVars false
open Go.RowKit Pl
def Cur (w : World) (g : Nat) (s : ByteArray) (p : Nat) (bad : Bool) : Prop := Box w g 163 #[.string s, .int .i64 (p : Int), .bool bad]
theorem Cur.c0 {w : World} {g : Nat} {s : ByteArray} {p : Nat} {bad : Bool} (h : Cur w g s p bad) : w.cell? ⟨g, 0, none⟩ = some (.string s) := Box.cell h 0
theorem Cur.c1 {w : World} {g : Nat} {s : ByteArray} {p : Nat} {bad : Bool} (h : Cur w g s p bad) : w.cell? ⟨g, 1, none⟩ = some (.int .i64 (p : Int)) := Box.cell h 1
theorem Cur.c2 {w : World} {g : Nat} {s : ByteArray} {p : Nat} {bad : Bool} (h : Cur w g s p bad) : w.cell? ⟨g, 2, none⟩ = some (.bool bad) := Box.cell h 2
section
variable {g : Nat} {s : ByteArray} {p q n : Nat} {z : Int} {bad b : Bool} {l : Bs} {w : World} (hs : (s.size : Int) ≤ 1000000000) (hp : p ≤ s.size)
include hs hp
end
theorem Cur.new {w : World} {g : Nat} {s : ByteArray} {b : Bool} (h : g = w.heap.size) : Cur (w.alloc (.cells #[.string s, .int .i64 0, .bool b] 163)) g s 0 b := by subst h; exact Box.new w _ _
end Go.Proofs.YtkjjacndfieeoaaGreatDoor
namespace Go.Proofs.YtkjjacndfieeoaaGreatDoor
set_option linter.unusedVariables false
set_option linter.unusedSimpArgs false
set_option linter.unusedSectionVars false
open Go.RowKit Pl
def z3T (t : Bs) : Option (Nat × Bs × Bs) :=
 let (a, p1, b1) := z36 t 0 false
 let (n, p2, b2) := z1f t p1 b1
 let (v, p3, b3) := z1f t p2 b2
 if z40 b3 p3 t.length && z8w a n v then some (a, n, v) else none
end Go.Proofs.YtkjjacndfieeoaaGreatDoor
namespace Go.Proofs.YtkjjacndfieeoaaGreatDoor
set_option maxRecDepth 100000
set_option maxHeartbeats 800000
set_option linter.unusedVariables false
set_option linter.unusedSimpArgs false
set_option linter.unusedSectionVars false
open Go.RowKit Pl
theorem z6k {x : Nat} (hx : (x : Int) ≤ 4294967295) : (#[Value.int .u8 ((x : Int) / 16777216), .int .u8 ((x : Int) / 65536 % 256), .int .u8 ((x : Int) / 256 % 256), .int .u8 ((x : Int) % 256)]).toList = (z1Z x).map bv := by
 simp [z1Z, bv]; omega
theorem zaP (x0 : Nat) (s : ByteArray) (w : World) (hs : (s.size : Int) ≤ 1000000000) (hx : (x0 : Int) ≤ 4294967295) :
 Calls Tryz.prog 192 #[.int .u32 (x0 : Int), .string s] w fun e w' => e = .returned (.int .u32 ((z1Y x0 s.data.toList : Nat) : Int)) ∧ w = w' := by
 go_enter Tryz.func192, Tryz.ntmps192
 go_wp2
 go_loop [0, 5] (fun t i => ∃ k x : Nat, i = .int .i64 (k : Int) ∧ t = .int .u32 (x : Int) ∧ k ≤ s.size ∧ (x : Int) ≤ 4294967295 ∧ Hid (z1Y x0 (s.data.toList.take k) = x)) (fun _ i => s.size - (intOf i).toNat)
 case atStart => exact ⟨0, x0, rfl, rfl, by omega, hx, Lib.hid (by simp [z1Y])⟩
 case round =>
  obtain ⟨k, x, rfl, rfl, hk, hx1, HK⟩ := hrel
  by_cases hin : k < s.size
  ·have hnb := zbx s
   have hb1 := zgh s k
   obtain ⟨b, hb, ht⟩ := z50 s k hin
   have HB := Lib.hid hb
   have HT := Lib.hid ht
   clear hb ht
   go_wp2
   go_loop [0, 19] (fun t i => ∃ j y : Nat, i = .int .i64 (j : Int) ∧ t = .int .u32 (y : Int) ∧ j ≤ 8 ∧ (y : Int) ≤ 4294967295 ∧ Hid (z4h j (x ^^^ nb s k) = y)) (fun _ i => 8 - (intOf i).toNat)
   case atStart => exact ⟨0, x ^^^ nb s k, rfl, congrArg (Value.int .u32) (xr32 hx1 (by omega)), by omega, z7s hx1 (by omega), Lib.hid rfl⟩
   case round =>
    obtain ⟨j, y, rfl, rfl, hj, hy, HY⟩ := hrel
    by_cases h8 : j < 8
    ·by_cases hodd : (y : Int) % 2 = 1
     ·have hod : (bits .and .u32 (y : Int) 1 == 1) = true := by rw [zc7 hy]; simp; omega
      have HS := Lib.hid (show z4h (j + 1) (x ^^^ nb s k) = (y / 2) ^^^ 3558460437 by rw [z4h, HY.out, zaJ, if_pos (by omega)])
      go_wp2
      go_round
      case rel => exact ⟨j + 1, (y / 2) ^^^ 3558460437, by go_num, congrArg (Value.int .u32) (z9s hy), by omega, z7s (by omega) (by omega), HS⟩
      case measure => simp [intOf]; omega
     ·have hod : (bits .and .u32 (y : Int) 1 == 1) = false := by rw [zc7 hy]; simp; omega
      have HS := Lib.hid (show z4h (j + 1) (x ^^^ nb s k) = y / 2 by rw [z4h, HY.out, zaJ, if_neg (by omega)])
      go_wp2
      go_round
      case rel => exact ⟨j + 1, y / 2, by go_num, by go_num, by omega, by omega, HS⟩
      case measure => simp [intOf]; omega
    ·obtain rfl : j = 8 := by omega
     go_wp2
     go_round
     case rel => exact ⟨k + 1, y, by go_num, rfl, by omega, hy, Lib.hid (by rw [HT.out, z4Z, HK.out, HB.out, HY.out])⟩
     case measure => simp [intOf]; omega
  ·go_wp2
   go_ret
   exact ⟨by rw [← HK.out, List.take_of_length_le (by rw [z13]; omega)]; rfl, rfl⟩
theorem zfa (s : ByteArray) (w : World) (hs : (s.size : Int) ≤ 1000000000) :
 Calls Tryz.prog 171 #[.string s] w fun e w' => e = .returned (.int .u32 ((z1T s.data.toList : Nat) : Int)) ∧ w = w' := by
 have hc := zaP 4294967295 s w hs (by omega)
 have HC := Lib.hid hc
 clear hc
 go_enter Tryz.func171, Tryz.ntmps171
 go_wp2_with (go_at_call 192; refine HC.out.mono ?_; rintro e w1 ⟨rfl, rfl⟩)
 go_ret
 exact ⟨rfl, rfl⟩
theorem z6Y (x : Nat) (w : World) (hx : (x : Int) ≤ 4294967295) :
 Calls Tryz.prog 170 #[.int .u32 (x : Int)] w fun e w' => e = .returned (.string (bs (z1Z x))) ∧ Below w.heap.size w w' := by
 have hcv := (Byt.lit w #[.int .u8 ((x : Int) / 16777216), .int .u8 ((x : Int) / 65536 % 256), .int .u8 ((x : Int) / 256 % 256), .int .u8 ((x : Int) % 256)] (z1Z x) 4 rfl (z6k hx) (by simp [z1Z])).string
 go_enter Tryz.func170, Tryz.ntmps170
 go_wp2
 go_ret
 exact ⟨rfl, (Below.refl _ w).alloc (Nat.le_refl _) _⟩
theorem z9B (x0 : Nat) (s : ByteArray) (w : World) (hs : (s.size : Int) ≤ 1000000000) (hx : (x0 : Int) ≤ 4294967295) :
 Calls Tryz.prog 206 #[.int .u32 (x0 : Int), .string s] w fun e w' => e = .returned (.int .u32 ((z1Y x0 s.data.toList : Nat) : Int)) ∧ w = w' := by
 go_enter Tryz.func206, Tryz.ntmps206
 go_wp2
 go_loop [0, 5] (fun t i => ∃ k x : Nat, i = .int .i64 (k : Int) ∧ t = .int .u32 (x : Int) ∧ k ≤ s.size ∧ (x : Int) ≤ 4294967295 ∧ Hid (z1Y x0 (s.data.toList.take k) = x)) (fun _ i => s.size - (intOf i).toNat)
 case atStart => exact ⟨0, x0, rfl, rfl, by omega, hx, Lib.hid (by simp [z1Y])⟩
 case round =>
  obtain ⟨k, x, rfl, rfl, hk, hx1, HK⟩ := hrel
  by_cases hin : k < s.size
  ·have hnb := zbx s
   have hb1 := zgh s k
   obtain ⟨b, hb, ht⟩ := z50 s k hin
   have HB := Lib.hid hb
   have HT := Lib.hid ht
   clear hb ht
   go_wp2
   go_loop [0, 6] (fun t i => ∃ j y : Nat, i = .int .i64 (j : Int) ∧ t = .int .u32 (y : Int) ∧ j ≤ 8 ∧ (y : Int) ≤ 4294967295 ∧ Hid (z4h j (x ^^^ nb s k) = y)) (fun _ i => 8 - (intOf i).toNat)
   case atStart => exact ⟨0, x ^^^ nb s k, rfl, congrArg (Value.int .u32) (xr32 hx1 (by omega)), by omega, z7s hx1 (by omega), Lib.hid rfl⟩
   case round =>
    obtain ⟨j, y, rfl, rfl, hj, hy, HY⟩ := hrel
    by_cases h8 : j < 8
    ·by_cases hodd : (y : Int) % 2 = 1
     ·have HS := Lib.hid (show z4h (j + 1) (x ^^^ nb s k) = (y / 2) ^^^ 3558460437 by rw [z4h, HY.out, zaJ, if_pos (by omega)])
      go_wp2
      go_round
      case rel => exact ⟨j + 1, (y / 2) ^^^ 3558460437, by go_num, congrArg (Value.int .u32) (z9s hy), by omega, z7s (by omega) (by omega), HS⟩
      case measure => simp [intOf]; omega
     ·have HS := Lib.hid (show z4h (j + 1) (x ^^^ nb s k) = y / 2 by rw [z4h, HY.out, zaJ, if_neg (by omega)])
      go_wp2
      go_round
      case rel => exact ⟨j + 1, y / 2, by go_num, by go_num, by omega, by omega, HS⟩
      case measure => simp [intOf]; omega
    ·obtain rfl : j = 8 := by omega
     go_wp2
     go_round
     case rel => exact ⟨k + 1, y, by go_num, rfl, by omega, hy, Lib.hid (by rw [HT.out, z4Z, HK.out, HB.out, HY.out])⟩
     case measure => simp [intOf]; omega
  ·go_wp2
   go_ret
   exact ⟨by rw [← HK.out, List.take_of_length_le (by rw [z13]; omega)]; rfl, rfl⟩
theorem zdh (s : ByteArray) (w : World) (hs : (s.size : Int) ≤ 1000000000) :
 Calls Tryz.prog 189 #[.string s] w fun e w' => e = .returned (.int .u32 ((z1T s.data.toList : Nat) : Int)) ∧ w = w' := by
 have hc := z9B 4294967295 s w hs (by omega)
 have HC := Lib.hid hc
 clear hc
 go_enter Tryz.func189, Tryz.ntmps189
 go_wp2_with (go_at_call 206; refine HC.out.mono ?_; rintro e w1 ⟨rfl, rfl⟩)
 go_ret
 exact ⟨rfl, rfl⟩
theorem z6l (x : Nat) (w : World) (hx : (x : Int) ≤ 4294967295) :
 Calls Tryz.prog 188 #[.int .u32 (x : Int)] w fun e w' => e = .returned (.string (bs (z1Z x))) ∧ Below w.heap.size w w' := by
 have hcv := (Byt.lit w #[.int .u8 ((x : Int) / 16777216), .int .u8 ((x : Int) / 65536 % 256), .int .u8 ((x : Int) / 256 % 256), .int .u8 ((x : Int) % 256)] (z1Z x) 4 rfl (z6k hx) (by simp [z1Z])).string
 go_enter Tryz.func188, Tryz.ntmps188
 go_wp2
 go_ret
 exact ⟨rfl, (Below.refl _ w).alloc (Nat.le_refl _) _⟩
end Go.Proofs.YtkjjacndfieeoaaGreatDoor
