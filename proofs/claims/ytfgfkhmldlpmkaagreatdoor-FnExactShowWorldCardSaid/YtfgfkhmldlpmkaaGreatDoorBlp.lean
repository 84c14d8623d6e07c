/- Functions by content: who is blamed, by the program: a set in a map, a row that grows and is sorted. -/
import Derived.Maps.OwnOps
import Derived.Maps.AppendAt
import Derived.Maps.Views
import Derived.WalkKit
import Derived.Test.YtfgfkhmldlpmkaaGreatDoorSoi
import Derived.Test.YtfgfkhmldlpmkaaGreatDoorBls
namespace Go.Proofs.YtfgfkhmldlpmkaaGreatDoor
open Go.RowKit Go.Maps Pl
set_option linter.unusedVariables false
set_option linter.unusedSimpArgs false

def MpIs (D : DataW Unit) (l : List Int) : Prop := IsMap D ∧ ∀ x, D.atKey (.int .i64 x) (.lit (.int .i64 0)) = .lit (.int .i64 (if l.contains x then 1 else 0))
theorem mpIs_nil : MpIs (.map []) [] := ⟨isMap_empty, fun x => by rw [atKey_of_not_has rfl]; rfl⟩
theorem mpIs_put {D : DataW Unit} {l : List Int} {x : Int} (h : MpIs D l) : MpIs (D.put (.int .i64 x) (.lit (.int .i64 1))) (l ++ [x]) :=
  ⟨h.1.put _ _, fun y => by
    by_cases e : y = x
    · subst e
      rw [atKey_put_same (k := .int .i64 y) h.1 trivial]
      simp
    · rw [atKey_put_other (by simp [e]), h.2 y]
      simp [e]⟩
/-- The pairs, as they lie in memory. -/
def PrRd (w : World) (A : Option Addr) (n : Nat) (hd : Nat → Int) : Prop := ∀ k, k < n → ∃ b off, A = some ⟨b, off, none⟩ ∧ b < w.heap.size ∧ ∃ (u1 : Int) (u2 : ByteArray) (u3 : ByteArray) (u4 : Int) (A5 : Option Addr) (l5 c5 : Nat) (A6 : Option Addr) (l6 c6 : Nat) (A7 : Option Addr) (l7 c7 : Nat) (u8 : Int) (u9 : Int) (u10 : ByteArray) (u11 : ByteArray) (u12 : Int) (A13 : Option Addr) (l13 c13 : Nat) (A14 : Option Addr) (l14 c14 : Nat) (A15 : Option Addr) (l15 c15 : Nat), w.cell? ⟨b, off + k * 16, none⟩ = some (.int .i64 (hd k)) ∧ w.cell? ⟨b, off + k * 16 + 1, none⟩ = some (.int .i64 u1) ∧ w.cell? ⟨b, off + k * 16 + 2, none⟩ = some (.string u2) ∧ w.cell? ⟨b, off + k * 16 + 3, none⟩ = some (.string u3) ∧ w.cell? ⟨b, off + k * 16 + 4, none⟩ = some (.int .i64 u4) ∧ w.cell? ⟨b, off + k * 16 + 5, none⟩ = some (.slice A5 l5 c5) ∧ w.cell? ⟨b, off + k * 16 + 6, none⟩ = some (.slice A6 l6 c6) ∧ w.cell? ⟨b, off + k * 16 + 7, none⟩ = some (.slice A7 l7 c7) ∧ w.cell? ⟨b, off + k * 16 + 8, none⟩ = some (.int .i64 u8) ∧ w.cell? ⟨b, off + k * 16 + 9, none⟩ = some (.int .i64 u9) ∧ w.cell? ⟨b, off + k * 16 + 10, none⟩ = some (.string u10) ∧ w.cell? ⟨b, off + k * 16 + 11, none⟩ = some (.string u11) ∧ w.cell? ⟨b, off + k * 16 + 12, none⟩ = some (.int .i64 u12) ∧ w.cell? ⟨b, off + k * 16 + 13, none⟩ = some (.slice A13 l13 c13) ∧ w.cell? ⟨b, off + k * 16 + 14, none⟩ = some (.slice A14 l14 c14) ∧ w.cell? ⟨b, off + k * 16 + 15, none⟩ = some (.slice A15 l15 c15)
theorem keyI : Keyed Tryz.prog 3 := int_keyed Tryz.underlying3
theorem zeroI (w : World) : (zeroValue 3).run Tryz.prog w = .ok (.int .i64 0) w := by kernel_rfl
theorem infoI : (Tryz.prog.info? 3).map (fun i => (i.zero, i.size, i.bytes)) = some (some (.int .i64 0), 1, 8) := by kernel_rfl
theorem rowNe {w : World} {base : Nat} {e : TypeId} {size : Nat} {v : Value} {n : Nat} {xs : List Value} (h : w.ownsRow base e size v n xs) {b : Nat} (hb : b < base) : some b ≠ v.ownBlock := fun e1 => by
  have := (h.lt b e1.symm).1
  omega
theorem addHs_le (hd : Nat → Int) : ∀ k, (addHs (hdL hd k)).length ≤ k
  | 0 => by simp [addHs, hdL]
  | k + 1 => by
    have h1 := addHs_le hd k
    rw [hdL_next, addHs_next]
    unfold addH
    split
    · omega
    · rw [List.length_append]; simp; omega
set_option maxHeartbeats 8000000 in
set_option maxRecDepth 100000 in
theorem blamed_any (A : Option Addr) (n c : Nat) (hd : Nat → Int) (w : World) (hn : n ≤ 1048576) (hA : PrRd w A n hd) (hw : ∀ k, k < n → (Lit.int .i64 (hd k)).wf = true) :
    Calls Tryz.prog 48 #[.slice A n c] w fun e w' => ∃ v, e = .returned v ∧ w'.ownsRow (w.heap.size + 1) 3 1 v (addHs (hdL hd n)).length (((addHs (hdL hd n)).mergeSort fun x y => decide (x ≤ y)).map (Value.int .i64)) ∧ Below w.heap.size w w' := by
  have hmm := @run_makeMap Tryz.prog
  obtain ⟨i0, hi, hz0, hz1, hz2⟩ := info_parts infoI
  go_enter Tryz.func48, Tryz.ntmps48
  go_wp2
  go_loopw [4, 11] (fun v i wr => ∃ (k : Nat) (D : DataW Unit), k ≤ n ∧ i = .int .i64 k ∧ wr.ownsMap Tryz.prog 3 (plainElem Tryz.prog 3) w.heap.size k D ∧ Hid (MpIs D (addHs (hdL hd k))) ∧ wr.ownsRow (w.heap.size + 1) 3 1 v (addHs (hdL hd k)).length ((addHs (hdL hd k)).map (Value.int .i64)) ∧ Below w.heap.size w wr ∧ w.heap.size + 1 ≤ wr.heap.size)
    (fun _ i _ => n - (intOf i).toNat)
  case atStart => exact ⟨0, _, Nat.zero_le _, rfl, World.ownsMap_made _ _ _ _, Lib.hid (by simpa [addHs, hdL] using mpIs_nil), by simpa [addHs, hdL] using World.ownsRow_nil _ _ _ _, (Below.refl _ _).alloc (Nat.le_refl _) _, by simp⟩
  case round =>
    obtain ⟨k, D, hk, rfl, hown, HM, hrow, hnx, hws⟩ := hrel
    have hle := addHs_le hd k
    by_cases hin : k < n
    · obtain ⟨b, off, rfl, hb, u1, u2, u3, u4, A5, l5, c5, A6, l6, c6, A7, l7, c7, u8, u9, u10, u11, u12, A13, l13, c13, A14, l14, c14, A15, l15, c15, q0, q1, q2, q3, q4, q5, q6, q7, q8, q9, q10, q11, q12, q13, q14, q15⟩ := hA k hin
      have a0 := (hnx.cell (p := ⟨b, off + k * 16, none⟩) hb).trans q0
      have a1 := (hnx.cell (p := ⟨b, off + k * 16 + 1, none⟩) hb).trans q1
      have a2 := (hnx.cell (p := ⟨b, off + k * 16 + 2, none⟩) hb).trans q2
      have a3 := (hnx.cell (p := ⟨b, off + k * 16 + 3, none⟩) hb).trans q3
      have a4 := (hnx.cell (p := ⟨b, off + k * 16 + 4, none⟩) hb).trans q4
      have a5 := (hnx.cell (p := ⟨b, off + k * 16 + 5, none⟩) hb).trans q5
      have a6 := (hnx.cell (p := ⟨b, off + k * 16 + 6, none⟩) hb).trans q6
      have a7 := (hnx.cell (p := ⟨b, off + k * 16 + 7, none⟩) hb).trans q7
      have a8 := (hnx.cell (p := ⟨b, off + k * 16 + 8, none⟩) hb).trans q8
      have a9 := (hnx.cell (p := ⟨b, off + k * 16 + 9, none⟩) hb).trans q9
      have a10 := (hnx.cell (p := ⟨b, off + k * 16 + 10, none⟩) hb).trans q10
      have a11 := (hnx.cell (p := ⟨b, off + k * 16 + 11, none⟩) hb).trans q11
      have a12 := (hnx.cell (p := ⟨b, off + k * 16 + 12, none⟩) hb).trans q12
      have a13 := (hnx.cell (p := ⟨b, off + k * 16 + 13, none⟩) hb).trans q13
      have a14 := (hnx.cell (p := ⟨b, off + k * 16 + 14, none⟩) hb).trans q14
      have a15 := (hnx.cell (p := ⟨b, off + k * 16 + 15, none⟩) hb).trans q15
      clear q0 q1 q2 q3 q4 q5 q6 q7 q8 q9 q10 q11 q12 q13 q14 q15
      have hkey : keyOf Tryz.prog 3 (.int .i64 (hd k)) = some (.int .i64 (hd k)) := keyOf_int_mk Tryz.underlying3 (hw k hin)
      have hadd : addHs (hdL hd (k + 1)) = addH (addHs (hdL hd k)) (hd k) := by rw [hdL_next, addHs_next]
      have HA := Lib.hid hadd
      clear hadd
      by_cases hs : (addHs (hdL hd k)).contains (hd k) = true
      · have hcc : ∀ c, D.atKey (.int .i64 (hd k)) (.lit (.int .i64 0)) = .lit (.int .i64 c) → c = 1 := fun c h => by
          rw [HM.out.2, if_pos hs] at h
          simpa using h.symm
        have HC := Lib.hid hcc
        have HS := Lib.hid hs
        clear hcc hs
        generalize hd k = x at a0 hkey HA HC HS
        go_wp2_with (first
          | (at_lookup; refine wpList_lookup_own_int _ rfl _ _ 150 rfl 3 3 .i64 keyI Tryz.underlying150 Tryz.underlying3 (zeroI _) w.heap.size k D rfl (hown.alloc _) _ _ rfl hkey ?_; intro c hat hwc; obtain rfl := HC.out c hat; clear hat hwc)
          | go_in)
        go_roundw
        case rel =>
          have e : addHs (hdL hd (k + 1)) = addHs (hdL hd k) := by rw [HA.out, addH, if_pos HS.out]
          refine ⟨k + 1, D, by omega, by go_num, (hown.alloc _).mono (Nat.le_succ _), ?_, ?_, hnx.alloc hnx.size _, by simp; omega⟩
          · rw [e]; exact HM
          · rw [e]; exact hrow.alloc _
        case measure => simp [intOf]; omega
      · have hs : (addHs (hdL hd k)).contains (hd k) = false := by simpa using hs
        have hcc : ∀ c, D.atKey (.int .i64 (hd k)) (.lit (.int .i64 0)) = .lit (.int .i64 c) → c = 0 := fun c h => by
          rw [HM.out.2, if_neg (by rw [hs]; decide)] at h
          simpa using h.symm
        have HC := Lib.hid hcc
        have HS := Lib.hid hs
        clear hcc hs
        generalize hd k = x at a0 hkey HA HC HS
        go_wp2_with (first
          | (at_lookup; refine wpList_lookup_own_int _ rfl _ _ 150 rfl 3 3 .i64 keyI Tryz.underlying150 Tryz.underlying3 (zeroI _) w.heap.size k D rfl (hown.alloc _) _ _ rfl hkey ?_; intro c hat hwc; obtain rfl := HC.out c hat; clear hat hwc)
          | (at_mapUpdate; refine wpList_mapUpdate_own _ rfl _ _ _ 150 rfl 3 3 keyI Tryz.underlying150 _ w.heap.size k D rfl (hown.alloc _) (by unfold maxLen; omega) _ _ _ rfl rfl hkey _ [] (plainElem_int Tryz.underlying3 (by decide)) ?_; intro w1 hown1 hgrow1)
          | (at_builtin; refine wpList_append_own _ rfl _ _ 27 rfl (w.heap.size + 1) 3 i0 (.int .i64 0) 1 8 Tryz.underlying27 hi hz0 hz1 hz2 rfl (by decide) _ _ _ rfl (((hrow.alloc _).kept hgrow1 (Or.inr (rowNe hrow (Nat.lt_succ_self _)).symm)).alloc _) ⟨w1.heap.size, 0, none⟩ 1 1 [.int .i64 x] rfl rfl (cell_one_new _ _ _) (ints_oneCell .i64 [x]) (by unfold maxLen; omega) (by omega) (by have := hgrow1.size; simp at this ⊢; omega) ?_; intro v' w2 hown' hgrow2 hnil2)
          | go_in)
        have hr1 := (hrow.alloc _).kept hgrow1 (Or.inr (rowNe hrow (Nat.lt_succ_self _)).symm)
        have s1 := hgrow1.size
        have s2 := hgrow2.size
        simp at s1 s2
        go_roundw
        case rel =>
          have e : addHs (hdL hd (k + 1)) = addHs (hdL hd k) ++ [x] := by rw [HA.out, addH, if_neg (by rw [HS.out]; decide)]
          refine ⟨k + 1, _, by omega, by go_num, (hown1.alloc _).kept hgrow2 (rowNe hr1 (Nat.lt_succ_self _)), ?_, ?_, ?_, by omega⟩
          · rw [e]; exact Lib.hid (mpIs_put HM.out)
          · rw [e]; simpa using hown'
          · exact (((hnx.alloc hnx.size _).grown hgrow1 (by simp; omega) (fun j hj => by cases hj; exact Nat.le_refl _)).alloc (by omega) _).grown hgrow2 (by simp; omega) (fun j hj => Nat.le_trans (Nat.le_succ _) (hr1.lt j hj).1)
        case measure => simp [intOf]; omega
    · obtain rfl : k = n := by omega
      go_wp2_with (first
        | (go_at_call 69; refine (sort_own (w.heap.size + 1) 3 _ _ _ hrow (by omega)).mono ?_; rintro e w2 ⟨rfl, hown2, hgr2⟩)
        | go_in)
      go_ret
      exact ⟨_, rfl, hown2, hnx.grown hgr2 (by omega) (fun j hj => Nat.le_trans (Nat.le_succ _) (hrow.lt j hj).1)⟩
end Go.Proofs.YtfgfkhmldlpmkaaGreatDoor
