/- Changes: the tests, the texts, the readers of both sides, and the law that they agree. The program's reader of fields: each of its methods, the reader's block known whole. The reference's reader of fields: each of its functions, the reader's block known whole. Changes: what both readers read. -/
import Derived.Test.YtkgfidphcpklhaaDoorWa
import Derived.Deep.RegionHeld3
import Derived.Test.YtkgfidphcpklhaaDoorPlainA
namespace Go.Proofs.YtkgfidphcpklhaaDoor
open Go.RowKit Pl
set_option linter.unusedVariables false

def changeOk (id : Int) (n v : Bs) : Bool := (decide (1 ≤ id) && decide (id ≤ 99)) && nameOk n && (v.isEmpty || valueOk v)
def chVal (id : Int) (n v : ByteArray) : Value := .agg #[.int .i64 id, .string n, .string v]

set_option maxRecDepth 100000 in
set_option maxHeartbeats 400000 in
theorem changeOk_any (id : Int) (n v : ByteArray) (w : World) (hn : (n.size : Int) ≤ 1000000000) (hv : (v.size : Int) ≤ 1000000000) :
    Calls Tryd.prog 89 #[.agg #[.int .i64 id, .string n, .string v]] w fun e w' => e = .returned (.bool (changeOk id n.data.toList v.data.toList)) ∧ Below w.heap.size w w' := by
  by_cases hid : 1 ≤ id ∧ id ≤ 99
  · obtain ⟨h1, h2⟩ := hid
    cases hN : nameOk n.data.toList
    · have hfin : changeOk id n.data.toList v.data.toList = false := by rw [changeOk, hN]; simp
      have HF := Lib.hid hfin
      clear hfin
      go_enter Tryd.func89, Tryd.ntmps89
      go_wp2_with (first | (go_at_call 16; refine (in_yes _ _ _ _ h1 h2).mono ?_; rintro e w1 ⟨rfl, rfl⟩) | (go_at_call 98; refine (nameOk_any _ _ hn).mono ?_; rintro e w1 ⟨rfl, rfl⟩))
      go_ret
      exact ⟨by rw [HF.out]; rfl, (Below.refl _ _).alloc (Nat.le_refl _) _⟩
    · cases hE : v.toList.isEmpty
      · have hfin : changeOk id n.data.toList v.data.toList = valueOk v.data.toList := by rw [toList_data] at hE; rw [changeOk, hN, hE]; simp [h1, h2]
        have HF := Lib.hid hfin
        clear hfin
        go_enter Tryd.func89, Tryd.ntmps89
        go_wp2_with (first | (go_at_call 16; refine (in_yes _ _ _ _ h1 h2).mono ?_; rintro e w1 ⟨rfl, rfl⟩) | (go_at_call 98; refine (nameOk_any _ _ hn).mono ?_; rintro e w1 ⟨rfl, rfl⟩) | (go_at_call 99; refine (valueOk_any _ _ hv).mono ?_; rintro e w1 ⟨rfl, rfl⟩))
        go_ret
        exact ⟨by rw [HF.out]; rfl, (Below.refl _ _).alloc (Nat.le_refl _) _⟩
      · have hfin : changeOk id n.data.toList v.data.toList = true := by rw [toList_data] at hE; rw [changeOk, hN, hE]; simp [h1, h2]
        have HF := Lib.hid hfin
        clear hfin
        go_enter Tryd.func89, Tryd.ntmps89
        go_wp2_with (first | (go_at_call 16; refine (in_yes _ _ _ _ h1 h2).mono ?_; rintro e w1 ⟨rfl, rfl⟩) | (go_at_call 98; refine (nameOk_any _ _ hn).mono ?_; rintro e w1 ⟨rfl, rfl⟩))
        go_ret
        exact ⟨by rw [HF.out]; rfl, (Below.refl _ _).alloc (Nat.le_refl _) _⟩
  · have hfin : changeOk id n.data.toList v.data.toList = false := by
      rw [changeOk]
      have : (decide (1 ≤ id) && decide (id ≤ 99)) = false := by simp; omega
      rw [this]; simp
    have HF := Lib.hid hfin
    clear hfin
    go_enter Tryd.func89, Tryd.ntmps89
    go_wp2_with (go_at_call 16; refine (in_no _ _ _ _ hid).mono ?_; rintro e w1 ⟨rfl, rfl⟩)
    go_ret
    exact ⟨by rw [HF.out]; rfl, (Below.refl _ _).alloc (Nat.le_refl _) _⟩

set_option maxRecDepth 100000 in
set_option maxHeartbeats 400000 in
theorem sChangeOk_any (id : Int) (n v : ByteArray) (w : World) (hn : (n.size : Int) ≤ 1000000000) (hv : (v.size : Int) ≤ 1000000000) :
    Calls Tryd.prog 73 #[.agg #[.int .i64 id, .string n, .string v]] w fun e w' => e = .returned (.bool (changeOk id n.data.toList v.data.toList)) ∧ Below w.heap.size w w' := by
  by_cases hid : 1 ≤ id ∧ id ≤ 99
  · obtain ⟨h1, h2⟩ := hid
    cases hN : nameOk n.data.toList
    · have hfin : changeOk id n.data.toList v.data.toList = false := by rw [changeOk, hN]; simp
      have HF := Lib.hid hfin
      clear hfin
      go_enter Tryd.func73, Tryd.ntmps73
      go_wp2_with (first | (go_at_call 40; refine (sin_yes _ _ _ _ h1 h2).mono ?_; rintro e w1 ⟨rfl, rfl⟩) | (go_at_call 90; refine (sNameOk_any _ _ hn).mono ?_; rintro e w1 ⟨rfl, rfl⟩))
      go_ret
      exact ⟨by rw [HF.out]; rfl, (Below.refl _ _).alloc (Nat.le_refl _) _⟩
    · cases hE : v.toList.isEmpty
      · have hfin : changeOk id n.data.toList v.data.toList = valueOk v.data.toList := by rw [toList_data] at hE; rw [changeOk, hN, hE]; simp [h1, h2]
        have HF := Lib.hid hfin
        clear hfin
        go_enter Tryd.func73, Tryd.ntmps73
        go_wp2_with (first | (go_at_call 40; refine (sin_yes _ _ _ _ h1 h2).mono ?_; rintro e w1 ⟨rfl, rfl⟩) | (go_at_call 90; refine (sNameOk_any _ _ hn).mono ?_; rintro e w1 ⟨rfl, rfl⟩) | (go_at_call 91; refine (sValueOk_any _ _ hv).mono ?_; rintro e w1 ⟨rfl, rfl⟩))
        go_ret
        exact ⟨by rw [HF.out]; rfl, (Below.refl _ _).alloc (Nat.le_refl _) _⟩
      · have hfin : changeOk id n.data.toList v.data.toList = true := by rw [toList_data] at hE; rw [changeOk, hN, hE]; simp [h1, h2]
        have HF := Lib.hid hfin
        clear hfin
        go_enter Tryd.func73, Tryd.ntmps73
        go_wp2_with (first | (go_at_call 40; refine (sin_yes _ _ _ _ h1 h2).mono ?_; rintro e w1 ⟨rfl, rfl⟩) | (go_at_call 90; refine (sNameOk_any _ _ hn).mono ?_; rintro e w1 ⟨rfl, rfl⟩))
        go_ret
        exact ⟨by rw [HF.out]; rfl, (Below.refl _ _).alloc (Nat.le_refl _) _⟩
  · have hfin : changeOk id n.data.toList v.data.toList = false := by
      rw [changeOk]
      have : (decide (1 ≤ id) && decide (id ≤ 99)) = false := by simp; omega
      rw [this]; simp
    have HF := Lib.hid hfin
    clear hfin
    go_enter Tryd.func73, Tryd.ntmps73
    go_wp2_with (go_at_call 40; refine (sin_no _ _ _ _ hid).mono ?_; rintro e w1 ⟨rfl, rfl⟩)
    go_ret
    exact ⟨by rw [HF.out]; rfl, (Below.refl _ _).alloc (Nat.le_refl _) _⟩

/-- A change's bytes. -/
def changeText (id : Int) (n v : Bs) : Bs := varText id.toNat ++ shortText n ++ shortText v

end Go.Proofs.YtkgfidphcpklhaaDoor
namespace Go.Proofs.YtkgfidphcpklhaaDoor
open Go.RowKit Pl
set_option linter.unusedVariables false

/-! ### the same, where the answer has names -/
section
variable {g : Nat} {s : ByteArray} {p q n : Nat} {bad b : Bool} {l : Bs} {w : World} (hs : (s.size : Int) ≤ 1000000000) (hp : p ≤ s.size)
include hs hp
end
end Go.Proofs.YtkgfidphcpklhaaDoor
namespace Go.Proofs.YtkgfidphcpklhaaDoor
open Go.RowKit Pl
set_option linter.unusedVariables false

/-! ### the same, where the answer has names -/
section
variable {g : Nat} {s : ByteArray} {p q n : Nat} {z : Int} {bad b : Bool} {l : Bs} {w : World} (hs : (s.size : Int) ≤ 1000000000) (hp : p ≤ s.size)
include hs hp
end
end Go.Proofs.YtkgfidphcpklhaaDoor
namespace Go.Proofs.YtkgfidphcpklhaaDoor
open Go.RowKit Pl
set_option linter.unusedVariables false

/-- What the program's ReadChange reads. -/
def readChangeI (t : Bs) : Option (Nat × Bs × Bs) :=
  let (a, p1, b1) := numOf t 0 false
  let (n, p2, b2) := shortOf t p1 b1
  let (v, p3, b3) := shortOf t p2 b2
  if doneB b3 p3 t.length && changeOk a n v then some (a, n, v) else none
def rcVal : Option (Nat × Bs × Bs) → Value
  | none => .tuple #[.agg #[.int .i64 0, .string (bs []), .string (bs [])], .bool false]
  | some (a, n, v) => .tuple #[.agg #[.int .i64 (a : Int), .string (bs n), .string (bs v)], .bool true]

/-- What the reference's ReadChange reads. -/
def readChangeS (t : Bs) : Option (Nat × Bs × Bs) :=
  let (a, p1, b1) := numS t 0 false
  let (n, p2, b2) := shortS t p1 b1
  let (v, p3, b3) := shortS t p2 b2
  if b3 = false ∧ changeOk a n v = true ∧ changeText a n v = t then some (a, n, v) else none

end Go.Proofs.YtkgfidphcpklhaaDoor
