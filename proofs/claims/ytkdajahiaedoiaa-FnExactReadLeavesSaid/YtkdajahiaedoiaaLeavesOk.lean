/- Entries: LeavesOk, both sides. -/
import Derived.Test.YtkdajahiaedoiaaLeafMem
import Derived.Test.YtkdajahiaedoiaaNames
namespace Go.Proofs.Ytkdajahiaedoiaa
open Go.RowKit Pl
set_option linter.unusedVariables false

/-- The strings of entries are of a size that the walks take. -/
def LfFits (l : List Lf) : Prop := ∀ i, i < l.length → ((lfAt l i).1.length : Int) ≤ 1000000000 ∧ ((lfAt l i).2.length : Int) ≤ 1000000000

set_option maxRecDepth 100000 in
set_option maxHeartbeats 1600000 in
theorem leavesOk_any (A : Option Addr) (n c : Nat) (l : List Lf) (w : World) (hn : (n : Int) ≤ 1000000000) (hA : RdL w w.heap.size A n l) (hf : LfFits l) :
    Calls Try.prog 28 #[.slice A n c] w fun e w' => e = .returned (.bool (leavesOk l)) ∧ Below w.heap.size w w' := by
  have HL := Lib.hid hA.1
  have HFt := Lib.hid hf
  clear hf
  go_enter Try.func28, Try.ntmps28
  go_wp2
  go_loopw [7] (fun i wr => ∃ k : Nat, i = .int .i64 (k : Int) ∧ k ≤ n ∧ (k : Int) ≤ 24 ∧ Hid (∀ i, i < k → stepOk l i = true) ∧ Below w.heap.size w wr) (fun i _ => n - (intOf i).toNat)
  case atStart => exact ⟨0, rfl, by omega, by omega, Lib.hid (fun i hi => absurd hi (by omega)), Below.refl _ _⟩
  case round =>
    obtain ⟨k, rfl, hk, hk24, HS, hb⟩ := hrel
    by_cases hin : k < n
    · obtain ⟨g, o, rfl, hg, hcA⟩ := hA.at hin
      have hfk := HFt.out k (by have := HL.out; omega)
      obtain ⟨a, ha⟩ : ∃ a, (lfAt l k).1 = a := ⟨_, rfl⟩
      obtain ⟨b, hb'⟩ : ∃ b, (lfAt l k).2 = b := ⟨_, rfl⟩
      obtain ⟨p, hp⟩ : ∃ p, (lfAt l (k - 1)).1 = p := ⟨_, rfl⟩
      have a0 := (hb.cell (p := ⟨g, o + k * 2, none⟩) hg).trans (hcA k hin).1
      have a1 := (hb.cell (p := ⟨g, o + k * 2 + 1, none⟩) hg).trans (hcA k hin).2
      have p0 : 0 < k → wr.cell? ⟨g, o + (k - 1) * 2, none⟩ = some (.string (bs p)) := fun h0 => by
        rw [← hp]
        exact (hb.cell (p := ⟨g, o + (k - 1) * 2, none⟩) hg).trans (hcA (k - 1) (by omega)).1
      rw [ha, hb'] at hfk
      rw [ha] at a0
      rw [hb'] at a1
      have hst : stepOk l k = (nameOk a && valueOk b && (k == 0 || ltB p a)) := by rw [stepOk, ha, hb', hp]
      have CN := fun W => nameOk_any (bs a) W (by rw [bs_size]; omega)
      have CV := fun W => valueOk_any (bs b) W (by rw [bs_size]; omega)
      simp only [bs_data] at CN CV
      have hkl : k < l.length := by have := HL.out; omega
      have hgw : g < wr.heap.size := by have := hb.size; omega
      clear hcA hA hp ha hb' hfk
      have HST := Lib.hid hst
      have HKL := Lib.hid hkl
      clear hst hkl
      by_cases h24 : (24 : Int) ≤ (k : Int)
      · have hd : decide ((k : Int) < 24) = false := by simp; omega
        have hd' : decide ((24 : Int) ≤ (k : Int)) = true := by simp; omega
        have hd'' : decide (24 ≤ k) = true := by simp; omega
        have hfin : leavesOk l = false := leavesOk_long (by have := HKL.out; omega)
        have HF := Lib.hid hfin
        clear hfin CN CV p0
        go_wp2
        go_quiet (fail)
        go_wp2
        go_ret
        exact ⟨by rw [HF.out]; rfl, below_drewN (hb.alloc hb.size _) _⟩
      · have hd : decide ((k : Int) < 24) = true := by simp; omega
        have hd' : decide ((24 : Int) ≤ (k : Int)) = false := by simp; omega
        have hd'' : decide (24 ≤ k) = false := by simp; omega
        cases hN : nameOk a
        · have hfin : leavesOk l = false := leavesOk_bad HKL.out (by rw [HST.out, hN]; rfl)
          rw [hN] at CN
          have HF := Lib.hid hfin
          clear hfin hN p0
          replace CN := Lib.hid CN
          replace CV := Lib.hid CV
          go_wp2
          go_quiet ((first | (go_at_call 72; exact quiet_l (CN.out _)) | (go_at_call 73; exact quiet_l (CV.out _))))
          go_wp2
          go_ret
          exact ⟨by rw [HF.out]; rfl, below_drewN (hb.alloc hb.size _) _⟩
        · rw [hN] at CN
          cases hV : valueOk b
          · have hfin : leavesOk l = false := leavesOk_bad HKL.out (by rw [HST.out, hV, hN]; rfl)
            rw [hV] at CV
            have HF := Lib.hid hfin
            clear hfin hN hV p0
            replace CN := Lib.hid CN
            replace CV := Lib.hid CV
            go_wp2
            go_quiet ((first | (go_at_call 72; exact quiet_l (CN.out _)) | (go_at_call 73; exact quiet_l (CV.out _))))
            go_wp2
            go_ret
            exact ⟨by rw [HF.out]; rfl, below_drewN (hb.alloc hb.size _) _⟩
          · rw [hV] at CV
            replace CN := Lib.hid CN
            replace CV := Lib.hid CV
            by_cases h0 : (0 : Int) < (k : Int)
            · have hd0 : decide ((0 : Int) < (k : Int)) = true := by simpa using h0
              have hd1 : decide (0 < k) = true := by simp; omega
              have hd2 : 0 < k := by omega
              have p1 := p0 (by omega)
              have e1 : ((k : Int) - 1).toNat = k - 1 := by omega
              have e2 : IntKind.i64.wrap ((k : Int) - 1) = (k : Int) - 1 := IntWalk.i64_in _ (by omega)
              have e3 : (0 : Int) ≤ (k : Int) - 1 := by omega
              have e4 : (k : Int) - 1 < (n : Int) := by omega
              cases hL : ltB p a
              · have hlt : Op.bytesLess (bs p).toList (bs a).toList = false := by rw [toList_data, toList_data, bs_data, bs_data]; exact hL
                have hfin : leavesOk l = false := leavesOk_bad HKL.out (by rw [HST.out, hN, hV, hL]; simp; omega)
                have HF := Lib.hid hfin
                clear hfin hN hV hL p0 h0
                go_wp2
                go_quiet ((first | (go_at_call 72; exact quiet_l (CN.out _)) | (go_at_call 73; exact quiet_l (CV.out _))))
                go_wp2
                go_ret
                exact ⟨by rw [HF.out]; rfl, below_drewN (hb.alloc hb.size _) _⟩
              · have hlt : Op.bytesLess (bs p).toList (bs a).toList = true := by rw [toList_data, toList_data, bs_data, bs_data]; exact hL
                have hnx : ∀ i, i < k + 1 → stepOk l i = true := fun i hi => by
                  rcases Nat.lt_or_ge i k with h | h
                  · exact HS.out i h
                  · obtain rfl : i = k := by omega
                    rw [HST.out, hN, hV, hL]; simp
                have HN := Lib.hid (Lib.hid hnx)
                clear hnx hN hV hL p0 h0
                go_wp2
                go_quiet ((first | (go_at_call 72; exact quiet_l (CN.out _)) | (go_at_call 73; exact quiet_l (CV.out _))))
                clear e1 e2
                go_wp2
                go_roundw
                case rel => exact ⟨k + 1, by go_num, by omega, by omega, HN.out, below_drewN (hb.alloc hb.size _) _⟩
                case measure => simp [intOf]; omega
            · obtain rfl : k = 0 := by omega
              simp only [Nat.zero_mul, Nat.add_zero] at a0 a1
              have hnx : ∀ i, i < 0 + 1 → stepOk l i = true := fun i hi => by
                obtain rfl : i = 0 := by omega
                rw [HST.out, hN, hV]; rfl
              have HN := Lib.hid (Lib.hid hnx)
              clear hnx hN hV p0 h0
              go_wp2
              go_quiet ((first | (go_at_call 72; exact quiet_l (CN.out _)) | (go_at_call 73; exact quiet_l (CV.out _))))
              go_wp2
              go_roundw
              case rel => exact ⟨0 + 1, rfl, by omega, by omega, HN.out, below_drewN (hb.alloc hb.size _) _⟩
              case measure => simp [intOf]; omega
    · obtain rfl : k = n := by omega
      have hfin : leavesOk l = true := leavesOk_good (by have := HL.out; omega) (fun i hi => HS.out i (by have := HL.out; omega))
      have HF := Lib.hid hfin
      clear hfin
      go_wp2
      go_ret
      exact ⟨by rw [HF.out]; rfl, hb⟩

set_option maxRecDepth 100000 in
set_option maxHeartbeats 1600000 in
theorem sLeavesOk_any (A : Option Addr) (n c : Nat) (l : List Lf) (w : World) (hn : (n : Int) ≤ 1000000000) (hA : RdL w w.heap.size A n l) (hf : LfFits l) :
    Calls Try.prog 107 #[.slice A n c] w fun e w' => e = .returned (.bool (leavesOk l)) ∧ Below w.heap.size w w' := by
  have HL := Lib.hid hA.1
  have HFt := Lib.hid hf
  clear hf
  go_enter Try.func107, Try.ntmps107
  go_wp2
  go_loopw [3] (fun i wr => ∃ k : Nat, i = .int .i64 (k : Int) ∧ k ≤ n ∧ Hid (∀ i, i < k → stepOk l i = true) ∧ Below w.heap.size w wr) (fun i _ => n - (intOf i).toNat)
  case atStart => exact ⟨0, rfl, by omega, Lib.hid (fun i hi => absurd hi (by omega)), Below.refl _ _⟩
  case round =>
    obtain ⟨k, rfl, hk, HS, hb⟩ := hrel
    by_cases hin : k < n
    · obtain ⟨g, o, rfl, hg, hcA⟩ := hA.at hin
      have hfk := HFt.out k (by have := HL.out; omega)
      obtain ⟨a, ha⟩ : ∃ a, (lfAt l k).1 = a := ⟨_, rfl⟩
      obtain ⟨b, hb'⟩ : ∃ b, (lfAt l k).2 = b := ⟨_, rfl⟩
      obtain ⟨p, hp⟩ : ∃ p, (lfAt l (k - 1)).1 = p := ⟨_, rfl⟩
      have a0 := (hb.cell (p := ⟨g, o + k * 2, none⟩) hg).trans (hcA k hin).1
      have a1 := (hb.cell (p := ⟨g, o + k * 2 + 1, none⟩) hg).trans (hcA k hin).2
      have p0 : 0 < k → wr.cell? ⟨g, o + (k - 1) * 2, none⟩ = some (.string (bs p)) := fun h0 => by
        rw [← hp]
        exact (hb.cell (p := ⟨g, o + (k - 1) * 2, none⟩) hg).trans (hcA (k - 1) (by omega)).1
      rw [ha, hb'] at hfk
      rw [ha] at a0
      rw [hb'] at a1
      have hst : stepOk l k = (nameOk a && valueOk b && (k == 0 || ltB p a)) := by rw [stepOk, ha, hb', hp]
      have CN := fun W => sNameOk_any (bs a) W (by rw [bs_size]; omega)
      have CV := fun W => sValueOk_any (bs b) W (by rw [bs_size]; omega)
      simp only [bs_data] at CN CV
      have hkl : k < l.length := by have := HL.out; omega
      have hgw : g < wr.heap.size := by have := hb.size; omega
      clear hcA hA hp ha hb' hfk
      have HST := Lib.hid hst
      have HKL := Lib.hid hkl
      clear hst hkl
      cases hN : nameOk a
      · have hfin : leavesOk l = false := leavesOk_bad HKL.out (by rw [HST.out, hN]; rfl)
        rw [hN] at CN
        have HF := Lib.hid hfin
        clear hfin hN p0
        replace CN := Lib.hid CN
        replace CV := Lib.hid CV
        go_wp2
        go_quiet ((first | (go_at_call 94; exact quiet_l (CN.out _)) | (go_at_call 95; exact quiet_l (CV.out _))))
        go_wp2
        go_ret
        exact ⟨by rw [HF.out]; rfl, below_drewN hb _⟩
      · rw [hN] at CN
        cases hV : valueOk b
        · have hfin : leavesOk l = false := leavesOk_bad HKL.out (by rw [HST.out, hV, hN]; rfl)
          rw [hV] at CV
          have HF := Lib.hid hfin
          clear hfin hN hV p0
          replace CN := Lib.hid CN
          replace CV := Lib.hid CV
          go_wp2
          go_quiet ((first | (go_at_call 94; exact quiet_l (CN.out _)) | (go_at_call 95; exact quiet_l (CV.out _))))
          go_wp2
          go_ret
          exact ⟨by rw [HF.out]; rfl, below_drewN hb _⟩
        · rw [hV] at CV
          replace CN := Lib.hid CN
          replace CV := Lib.hid CV
          by_cases h0 : (0 : Int) < (k : Int)
          · have hd0 : decide ((0 : Int) < (k : Int)) = true := by simpa using h0
            have hd1 : decide (0 < k) = true := by simp; omega
            have hd2 : 0 < k := by omega
            have p1 := p0 (by omega)
            have e1 : ((k : Int) - 1).toNat = k - 1 := by omega
            have e2 : IntKind.i64.wrap ((k : Int) - 1) = (k : Int) - 1 := IntWalk.i64_in _ (by omega)
            have e3 : (0 : Int) ≤ (k : Int) - 1 := by omega
            have e4 : (k : Int) - 1 < (n : Int) := by omega
            cases hL : ltB p a
            · have hlt : Op.bytesLess (bs p).toList (bs a).toList = false := by rw [toList_data, toList_data, bs_data, bs_data]; exact hL
              have hfin : leavesOk l = false := leavesOk_bad HKL.out (by rw [HST.out, hN, hV, hL]; simp; omega)
              have HF := Lib.hid hfin
              clear hfin hN hV hL p0 h0
              go_wp2
              go_quiet ((first | (go_at_call 94; exact quiet_l (CN.out _)) | (go_at_call 95; exact quiet_l (CV.out _))))
              go_wp2
              go_ret
              exact ⟨by rw [HF.out]; rfl, below_drewN hb _⟩
            · have hlt : Op.bytesLess (bs p).toList (bs a).toList = true := by rw [toList_data, toList_data, bs_data, bs_data]; exact hL
              have hnx : ∀ i, i < k + 1 → stepOk l i = true := fun i hi => by
                rcases Nat.lt_or_ge i k with h | h
                · exact HS.out i h
                · obtain rfl : i = k := by omega
                  rw [HST.out, hN, hV, hL]; simp
              have HN := Lib.hid (Lib.hid hnx)
              clear hnx hN hV hL p0 h0
              go_wp2
              go_quiet ((first | (go_at_call 94; exact quiet_l (CN.out _)) | (go_at_call 95; exact quiet_l (CV.out _))))
              clear e1 e2
              go_wp2
              go_roundw
              case rel => exact ⟨k + 1, by go_num, by omega, HN.out, below_drewN hb _⟩
              case measure => simp [intOf]; omega
          · obtain rfl : k = 0 := by omega
            simp only [Nat.zero_mul, Nat.add_zero] at a0 a1
            have hnx : ∀ i, i < 0 + 1 → stepOk l i = true := fun i hi => by
              obtain rfl : i = 0 := by omega
              rw [HST.out, hN, hV]; rfl
            have HN := Lib.hid (Lib.hid hnx)
            clear hnx hN hV p0 h0
            go_wp2
            go_quiet ((first | (go_at_call 94; exact quiet_l (CN.out _)) | (go_at_call 95; exact quiet_l (CV.out _))))
            go_wp2
            go_roundw
            case rel => exact ⟨0 + 1, rfl, by omega, HN.out, below_drewN hb _⟩
            case measure => simp [intOf]; omega
    · obtain rfl : k = n := by omega
      by_cases h24 : (k : Int) ≤ 24
      · have hfin : leavesOk l = true := leavesOk_good (by have := HL.out; omega) (fun i hi => HS.out i (by have := HL.out; omega))
        have HF := Lib.hid hfin
        clear hfin
        go_wp2
        go_ret
        exact ⟨by rw [HF.out]; rfl, hb⟩
      · have hfin : leavesOk l = false := leavesOk_long (by have := HL.out; omega)
        have HF := Lib.hid hfin
        clear hfin
        go_wp2
        go_ret
        exact ⟨by rw [HF.out]; rfl, hb⟩

end Go.Proofs.Ytkdajahiaedoiaa
