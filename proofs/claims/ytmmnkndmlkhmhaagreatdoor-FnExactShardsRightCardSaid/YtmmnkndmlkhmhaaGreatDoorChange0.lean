/- Changes: the tests, the texts, the readers of both sides, and the law that they agree. -/
import Derived.Test.YtmmnkndmlkhmhaaGreatDoorWa
import Derived.Deep.RegionHeld3
namespace Go.Proofs.YtmmnkndmlkhmhaaGreatDoor
open Go.RowKit Pl
set_option linter.unusedVariables false
set_option linter.unusedSimpArgs false

def changeOk (id : Int) (n v : Bs) : Bool := (decide (1 ≤ id) && decide (id ≤ 99)) && nameOk n && (v.isEmpty || valueOk v)
def chVal (id : Int) (n v : ByteArray) : Value := .agg #[.int .i64 id, .string n, .string v]

set_option maxRecDepth 100000 in
set_option maxHeartbeats 400000 in
theorem changeOk_any (id : Int) (n v : ByteArray) (w : World) (hn : (n.size : Int) ≤ 1000000000) (hv : (v.size : Int) ≤ 1000000000) :
    Calls Tryz.prog 365 #[.agg #[.int .i64 id, .string n, .string v]] w fun e w' => e = .returned (.bool (changeOk id n.data.toList v.data.toList)) ∧ Below w.heap.size w w' := by
  by_cases hid : 1 ≤ id ∧ id ≤ 99
  · obtain ⟨h1, h2⟩ := hid
    cases hN : nameOk n.data.toList
    · have hfin : changeOk id n.data.toList v.data.toList = false := by rw [changeOk, hN]; simp
      have HF := Lib.hid hfin
      clear hfin
      go_enter Tryz.func365, Tryz.ntmps365
      go_wp2_with (first | (go_at_call 102; refine (in_yes _ _ _ _ h1 h2).mono ?_; rintro e w1 ⟨rfl, rfl⟩) | (go_at_call 114; refine (nameOk_any _ _ hn).mono ?_; rintro e w1 ⟨rfl, rfl⟩))
      go_ret
      exact ⟨by rw [HF.out]; rfl, (Below.refl _ _).alloc (Nat.le_refl _) _⟩
    · cases hE : v.toList.isEmpty
      · have hfin : changeOk id n.data.toList v.data.toList = valueOk v.data.toList := by rw [toList_data] at hE; rw [changeOk, hN, hE]; simp [h1, h2]
        have HF := Lib.hid hfin
        clear hfin
        go_enter Tryz.func365, Tryz.ntmps365
        go_wp2_with (first | (go_at_call 102; refine (in_yes _ _ _ _ h1 h2).mono ?_; rintro e w1 ⟨rfl, rfl⟩) | (go_at_call 114; refine (nameOk_any _ _ hn).mono ?_; rintro e w1 ⟨rfl, rfl⟩) | (go_at_call 170; refine (valueOk_any _ _ hv).mono ?_; rintro e w1 ⟨rfl, rfl⟩))
        go_ret
        exact ⟨by rw [HF.out]; rfl, (Below.refl _ _).alloc (Nat.le_refl _) _⟩
      · have hfin : changeOk id n.data.toList v.data.toList = true := by rw [toList_data] at hE; rw [changeOk, hN, hE]; simp [h1, h2]
        have HF := Lib.hid hfin
        clear hfin
        go_enter Tryz.func365, Tryz.ntmps365
        go_wp2_with (first | (go_at_call 102; refine (in_yes _ _ _ _ h1 h2).mono ?_; rintro e w1 ⟨rfl, rfl⟩) | (go_at_call 114; refine (nameOk_any _ _ hn).mono ?_; rintro e w1 ⟨rfl, rfl⟩))
        go_ret
        exact ⟨by rw [HF.out]; rfl, (Below.refl _ _).alloc (Nat.le_refl _) _⟩
  · have hfin : changeOk id n.data.toList v.data.toList = false := by
      rw [changeOk]
      have : (decide (1 ≤ id) && decide (id ≤ 99)) = false := by simp; omega
      rw [this]; simp
    have HF := Lib.hid hfin
    clear hfin
    go_enter Tryz.func365, Tryz.ntmps365
    go_wp2_with (go_at_call 102; refine (in_no _ _ _ _ hid).mono ?_; rintro e w1 ⟨rfl, rfl⟩)
    go_ret
    exact ⟨by rw [HF.out]; rfl, (Below.refl _ _).alloc (Nat.le_refl _) _⟩

set_option maxRecDepth 100000 in
set_option maxHeartbeats 400000 in
theorem sChangeOk_any (id : Int) (n v : ByteArray) (w : World) (hn : (n.size : Int) ≤ 1000000000) (hv : (v.size : Int) ≤ 1000000000) :
    Calls Tryz.prog 296 #[.agg #[.int .i64 id, .string n, .string v]] w fun e w' => e = .returned (.bool (changeOk id n.data.toList v.data.toList)) ∧ Below w.heap.size w w' := by
  by_cases hid : 1 ≤ id ∧ id ≤ 99
  · obtain ⟨h1, h2⟩ := hid
    cases hN : nameOk n.data.toList
    · have hfin : changeOk id n.data.toList v.data.toList = false := by rw [changeOk, hN]; simp
      have HF := Lib.hid hfin
      clear hfin
      go_enter Tryz.func296, Tryz.ntmps296
      go_wp2_with (first | (go_at_call 92; refine (sin_yes _ _ _ _ h1 h2).mono ?_; rintro e w1 ⟨rfl, rfl⟩) | (go_at_call 215; refine (sNameOk_any _ _ hn).mono ?_; rintro e w1 ⟨rfl, rfl⟩))
      go_ret
      exact ⟨by rw [HF.out]; rfl, (Below.refl _ _).alloc (Nat.le_refl _) _⟩
    · cases hE : v.toList.isEmpty
      · have hfin : changeOk id n.data.toList v.data.toList = valueOk v.data.toList := by rw [toList_data] at hE; rw [changeOk, hN, hE]; simp [h1, h2]
        have HF := Lib.hid hfin
        clear hfin
        go_enter Tryz.func296, Tryz.ntmps296
        go_wp2_with (first | (go_at_call 92; refine (sin_yes _ _ _ _ h1 h2).mono ?_; rintro e w1 ⟨rfl, rfl⟩) | (go_at_call 215; refine (sNameOk_any _ _ hn).mono ?_; rintro e w1 ⟨rfl, rfl⟩) | (go_at_call 272; refine (sValueOk_any _ _ hv).mono ?_; rintro e w1 ⟨rfl, rfl⟩))
        go_ret
        exact ⟨by rw [HF.out]; rfl, (Below.refl _ _).alloc (Nat.le_refl _) _⟩
      · have hfin : changeOk id n.data.toList v.data.toList = true := by rw [toList_data] at hE; rw [changeOk, hN, hE]; simp [h1, h2]
        have HF := Lib.hid hfin
        clear hfin
        go_enter Tryz.func296, Tryz.ntmps296
        go_wp2_with (first | (go_at_call 92; refine (sin_yes _ _ _ _ h1 h2).mono ?_; rintro e w1 ⟨rfl, rfl⟩) | (go_at_call 215; refine (sNameOk_any _ _ hn).mono ?_; rintro e w1 ⟨rfl, rfl⟩))
        go_ret
        exact ⟨by rw [HF.out]; rfl, (Below.refl _ _).alloc (Nat.le_refl _) _⟩
  · have hfin : changeOk id n.data.toList v.data.toList = false := by
      rw [changeOk]
      have : (decide (1 ≤ id) && decide (id ≤ 99)) = false := by simp; omega
      rw [this]; simp
    have HF := Lib.hid hfin
    clear hfin
    go_enter Tryz.func296, Tryz.ntmps296
    go_wp2_with (go_at_call 92; refine (sin_no _ _ _ _ hid).mono ?_; rintro e w1 ⟨rfl, rfl⟩)
    go_ret
    exact ⟨by rw [HF.out]; rfl, (Below.refl _ _).alloc (Nat.le_refl _) _⟩

/-- A change's bytes. -/
def changeText (id : Int) (n v : Bs) : Bs := varText id.toNat ++ shortText n ++ shortText v

set_option maxRecDepth 100000 in
set_option maxHeartbeats 400000 in
theorem sChangeText_no (id : Int) (n v : ByteArray) (w : World) (hn : (n.size : Int) ≤ 1000000000) (hv : (v.size : Int) ≤ 1000000000) (ho : changeOk id n.data.toList v.data.toList = false) :
    Calls Tryz.prog 297 #[.agg #[.int .i64 id, .string n, .string v]] w fun e w' => e = .returned (.tuple #[.string (bs []), .bool false]) ∧ Below w.heap.size w w' := by
  go_enter Tryz.func297, Tryz.ntmps297
  go_wp2_with (go_at_call 296; refine (sChangeOk_any _ _ _ _ hn hv).mono ?_; rintro e w1 ⟨rfl, hb1⟩)
  go_ret2
  exact ⟨rfl, ((Below.refl _ w).alloc (Nat.le_refl _) _).trans (hb1.mono (by simp))⟩

set_option maxRecDepth 100000 in
set_option maxHeartbeats 400000 in
theorem sChangeText_yes (id : Nat) (n v : ByteArray) (w : World) (hn : (n.size : Int) ≤ 1000000000) (hv : (v.size : Int) ≤ 1000000000) (ho : changeOk (id : Int) n.data.toList v.data.toList = true) :
    Calls Tryz.prog 297 #[.agg #[.int .i64 (id : Int), .string n, .string v]] w fun e w' => e = .returned (.tuple #[.string (bs (changeText (id : Int) n.data.toList v.data.toList)), .bool true]) ∧ Below w.heap.size w w' := by
  have hi : (id : Int) ≤ 99 := by
    unfold changeOk at ho
    simp at ho; omega
  have l1 := varText_len (n := id) (by omega)
  have l2 := varText_len (n := n.size) (by omega)
  have l3 := varText_len (n := v.size) (by omega)
  rw [← bs_size] at l1 l2 l3
  have q1 : ¬ (9223372036854775807 < (bs (varText id)).size + (bs (varText n.size)).size) := by omega
  have q2 : ¬ (9223372036854775807 < (bs (varText id)).size + (bs (varText n.size)).size + n.size) := by omega
  have q3 : ¬ (9223372036854775807 < (bs (varText id)).size + (bs (varText n.size)).size + n.size + (bs (varText v.size)).size) := by omega
  have q4 : ¬ (9223372036854775807 < (bs (varText id)).size + (bs (varText n.size)).size + n.size + (bs (varText v.size)).size + v.size) := by omega
  go_enter Tryz.func297, Tryz.ntmps297
  go_wp2_with (go_at_call 296; refine (sChangeOk_any _ _ _ _ hn hv).mono ?_; rintro e w1 ⟨rfl, hb1⟩)
  have hB1 : Below w.heap.size w w1 := ((Below.refl _ w).alloc (Nat.le_refl _) _).trans (hb1.mono (by simp))
  have hX1 := (Box.new w 242 #[.int .i64 (id : Int), .string n, .string v]).below hb1 (by simp)
  go_region_held3 (fun W => Below w.heap.size w W ∧ Box W w.heap.size 242 #[.int .i64 (id : Int), .string n, .string v] ∧ W.cell? ⟨w.heap.size, 0, none⟩ = some (.int .i64 (id : Int)) ∧ W.cell? ⟨w.heap.size, 1, none⟩ = some (.string n) ∧ W.cell? ⟨w.heap.size, 2, none⟩ = some (.string v)) (first | exact ⟨hB1.drew, hX1.drew, hX1.drew.cell 0, hX1.drew.cell 1, hX1.drew.cell 2⟩ | assumption | exact heldStep3 (by assumption) hb) (first | (go_at_call 303; refine (sVar_any _ _ (by omega)).mono ?_; rintro e w2 ⟨rfl, hb⟩) | fail)
  rename Below _ _ _ ∧ _ => hH
  have hB2 := hH.1
  clear hH
  go_wp2
  go_ret2
  refine ⟨?_, hB2⟩
  have e1 : bs (varText id) ++ bs (varText n.size) ++ n ++ bs (varText v.size) ++ v = bs (changeText (id : Int) n.data.toList v.data.toList) := by
    refine data_ext ?_
    simp only [data_append, bs_data, changeText, shortText, size_data, Int.toNat_natCast, List.append_assoc]
  rw [← e1]; rfl

end Go.Proofs.YtmmnkndmlkhmhaaGreatDoor
