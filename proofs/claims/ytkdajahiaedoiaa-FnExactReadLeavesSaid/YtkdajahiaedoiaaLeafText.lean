/- Entries: their texts, of both sides. -/
import Derived.Test.YtkdajahiaedoiaaLeavesOk
import Derived.Test.YtkdajahiaedoiaaSpecWords
namespace Go.Proofs.Ytkdajahiaedoiaa
open Go.RowKit Pl
set_option linter.unusedVariables false

/-- Names and values that are short. -/
def LfSmall (l : List Lf) : Prop := ∀ i, i < l.length → (lfAt l i).1.length ≤ 20000 ∧ (lfAt l i).2.length ≤ 20000
theorem LfSmall.fits {l : List Lf} (h : LfSmall l) : LfFits l := fun i hi => by have := h i hi; omega
theorem RdL.more {w : World} {hi hi' : Nat} {A : Option Addr} {n : Nat} {l : List Lf} (h : RdL w hi A n l) (hh : hi ≤ hi') : RdL w hi' A n l := ⟨h.1, h.2.more hh⟩
theorem RdL.next {w w' : World} {A : Option Addr} {n : Nat} {l : List Lf} (h : RdL w w.heap.size A n l) (hb : Below w.heap.size w w') : RdL w' w'.heap.size A n l := (h.below hb (Nat.le_refl _)).more hb.size
theorem take_succ_at (l : List Lf) (k : Nat) (h : k < l.length) : l.take (k + 1) = l.take k ++ [lfAt l k] := by
  rw [List.take_add_one, List.getElem?_eq_getElem h]
  simp [lfAt, List.getD_eq_getElem?_getD, h]
theorem leavesText_at {l : List Lf} {k : Nat} (h : k < l.length) (v : Bs) : v ++ (l.take (k + 1)).flatMap lfText = (v ++ (l.take k).flatMap lfText) ++ lfText (lfAt l k) := by
  rw [take_succ_at l k h]; simp

set_option maxRecDepth 100000 in
set_option maxHeartbeats 800000 in
theorem sText_any (A : Option Addr) (n c : Nat) (l : List Lf) (w : World) (hn : (n : Int) ≤ 10000) (hA : RdL w w.heap.size A n l) (hf : LfSmall l) :
    Calls Try.prog 108 #[.slice A n c] w fun e w' => e = .returned (.string (bs (leavesText l))) ∧ Below w.heap.size w w' := by
  have HL := Lib.hid hA.1
  have HFt := Lib.hid hf
  clear hf
  go_enter Try.func108, Try.ntmps108
  go_wp2_with (go_at_call 99; refine (sVar_any n _ (by omega)).mono ?_; rintro e w1 ⟨rfl, hb1⟩)
  go_loopw [3, 4] (fun s i wr => ∃ (k : Nat) (out : Bs), i = .int .i64 (k : Int) ∧ s = .string (bs out) ∧ k ≤ n ∧ out.length ≤ 5 + k * 40020 ∧ Hid (out = varText n ++ (l.take k).flatMap lfText) ∧ Below w.heap.size w wr) (fun _ i _ => n - (intOf i).toNat)
  case atStart => exact ⟨0, varText n, rfl, rfl, by omega, by have := varText_len (n := n) (by omega); omega, Lib.hid (by simp), hb1⟩
  case round =>
    obtain ⟨k, out, rfl, rfl, hk, hol, HO, hb⟩ := hrel
    by_cases hin : k < n
    · obtain ⟨g, o, rfl, hg, hc⟩ := hA.at hin
      have a0 := (hb.cell (p := ⟨g, o + k * 2, none⟩) hg).trans (hc k hin).1
      have a1 := (hb.cell (p := ⟨g, o + k * 2 + 1, none⟩) hg).trans (hc k hin).2
      clear hc
      have hk' : k < l.length := by rw [← HL.out]; exact hin
      have hff := HFt.out k hk'
      have hst := leavesText_at hk' (varText n)
      obtain ⟨a, ha⟩ : ∃ a, bs (lfAt l k).1 = a := ⟨_, rfl⟩
      obtain ⟨b, hbb⟩ : ∃ b, bs (lfAt l k).2 = b := ⟨_, rfl⟩
      have za := bs_size (lfAt l k).1
      have zb := bs_size (lfAt l k).2
      have zo := bs_size out
      rw [ha] at a0 za
      rw [hbb] at a1 zb
      have sa : a.size ≤ 20000 := by omega
      have sb : b.size ≤ 20000 := by omega
      have l2 := varText_len (n := a.size) (by omega)
      have l3 := varText_len (n := b.size) (by omega)
      rw [← bs_size] at l2 l3
      have so : (bs out).size ≤ 5 + k * 40020 := by omega
      have q1 : ¬ (9223372036854775807 < (bs out).size + (bs (varText a.size)).size) := by omega
      have q2 : ¬ (9223372036854775807 < (bs out).size + (bs (varText a.size)).size + a.size) := by omega
      have q3 : ¬ (9223372036854775807 < (bs out).size + (bs (varText a.size)).size + a.size + (bs (varText b.size)).size) := by omega
      have q4 : ¬ (9223372036854775807 < (bs out).size + (bs (varText a.size)).size + a.size + (bs (varText b.size)).size + b.size) := by omega
      have da : (lfAt l k).1 = a.data.toList := by rw [← ha, bs_data]
      have db : (lfAt l k).2 = b.data.toList := by rw [← hbb, bs_data]
      have hzz : out.length + 40010 ≤ 5 + (k + 1) * 40020 := by omega
      have HS := Lib.hid hst
      have sl2 : (varText a.size).length ≤ 5 := by rw [bs_size] at l2; exact l2
      have sl3 : (varText b.size).length ≤ 5 := by rw [bs_size] at l3; exact l3
      clear hst hff
      have DA := Lib.hid da
      have DB := Lib.hid db
      have ZA := Lib.hid za
      have ZB := Lib.hid zb
      have ZO := Lib.hid zo
      have HA2 := Lib.hid ha
      have HB2 := Lib.hid hbb
      clear da db za zb zo ha hbb
      go_wp2
      go_region_held3 (fun W => Below w.heap.size w W ∧ W.cell? ⟨g, o + k * 2, none⟩ = some (.string a) ∧ W.cell? ⟨g, o + k * 2 + 1, none⟩ = some (.string b)) (first | exact ⟨hb.drew, a0, a1⟩ | assumption | exact cellsStep2 hg hg (by assumption) hb2) (first | (go_at_call 99; refine (sVar_any _ _ (by omega)).mono ?_; rintro e w2 ⟨rfl, hb2⟩) | fail)
      rename Below _ _ _ ∧ _ => hH
      have hB2 := hH.1
      clear hH
      go_wp2
      go_roundw
      case rel =>
        have e1 : bs out ++ bs (varText a.size) ++ a ++ bs (varText b.size) ++ b = bs (out ++ lfText (lfAt l k)) := by
          refine data_ext ?_
          simp only [data_append, bs_data, lfText, DA.out, DB.out, shortText, size_data, List.append_assoc]
        refine ⟨k + 1, out ++ lfText (lfAt l k), by go_num, congrArg Value.string e1, by omega, ?_, Lib.hid (by rw [HO.out, HS.out]), hB2⟩
        have h5 : (lfText (lfAt l k)).length ≤ 40010 := by
          rw [lfText, DA.out, DB.out]
          simp only [shortText, List.length_append, size_data]
          omega
        rw [List.length_append]; omega
      case measure => simp [intOf]; omega
    · obtain rfl : k = n := by omega
      go_wp2
      go_ret
      refine ⟨?_, hb⟩
      rw [HO.out, leavesText, HL.out, List.take_length]; rfl

set_option maxRecDepth 100000 in
set_option maxHeartbeats 400000 in
theorem sLeavesText_no (A : Option Addr) (n c : Nat) (l : List Lf) (w : World) (hn : (n : Int) ≤ 10000) (hA : RdL w w.heap.size A n l) (hf : LfSmall l) (ho : leavesOk l = false) :
    Calls Try.prog 63 #[.slice A n c] w fun e w' => e = .returned (.tuple #[.string (bs []), .bool false]) ∧ Below w.heap.size w w' := by
  have C := sLeavesOk_any A n c l w (by omega) hA hf.fits
  rw [ho] at C
  replace C := Lib.hid C
  clear ho
  go_enter Try.func63, Try.ntmps63
  go_wp2_with (go_at_call 107; refine C.out.mono ?_; rintro e w1 ⟨rfl, hb1⟩)
  go_ret2
  exact ⟨rfl, hb1⟩

set_option maxRecDepth 100000 in
set_option maxHeartbeats 400000 in
theorem sLeavesText_yes (A : Option Addr) (n c : Nat) (l : List Lf) (w : World) (hn : (n : Int) ≤ 10000) (hA : RdL w w.heap.size A n l) (hf : LfSmall l) (ho : leavesOk l = true) :
    Calls Try.prog 63 #[.slice A n c] w fun e w' => e = .returned (.tuple #[.string (bs (leavesText l)), .bool true]) ∧ Below w.heap.size w w' := by
  have C := sLeavesOk_any A n c l w (by omega) hA hf.fits
  rw [ho] at C
  replace C := Lib.hid C
  clear ho
  go_enter Try.func63, Try.ntmps63
  go_wp2_with (go_at_call 107; refine C.out.mono ?_; rintro e w1 ⟨rfl, hb1⟩)
  go_wp2_with (go_at_call 108; refine (sText_any A n c l w1 hn (hA.next hb1) hf).mono ?_; rintro e w2 ⟨rfl, hb2⟩)
  go_ret2
  exact ⟨rfl, hb1.trans (hb2.mono hb1.size)⟩
end Go.Proofs.Ytkdajahiaedoiaa
