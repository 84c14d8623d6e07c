/- What the reference's small functions on numbers and strings compute. -/
import Derived.Test.YtkdajahiaedoiaaWords
import Derived.Deep.RegionHeld3
import Derived.Deep.RegionWith
namespace Go.Proofs.Ytkdajahiaedoiaa
open Go.RowKit Pl
set_option linter.unusedVariables false

set_option maxHeartbeats 400000 in
theorem sin_yes (n lo hi : Int) (w : World) (h : lo ≤ n) (h2 : n ≤ hi) :
    Calls Try.prog 84 #[.int .i64 n, .int .i64 lo, .int .i64 hi] w fun e w' => e = .returned (.bool true) ∧ w = w' := by
  go_enter Try.func84, Try.ntmps84
  go_wp2
  go_ret
  exact ⟨rfl, rfl⟩
set_option maxHeartbeats 400000 in
theorem sin_no (n lo hi : Int) (w : World) (h : ¬ (lo ≤ n ∧ n ≤ hi)) :
    Calls Try.prog 84 #[.int .i64 n, .int .i64 lo, .int .i64 hi] w fun e w' => e = .returned (.bool false) ∧ w = w' := by
  by_cases h1 : lo ≤ n
  · have h2 : ¬ n ≤ hi := fun c => h ⟨h1, c⟩
    clear h
    go_enter Try.func84, Try.ntmps84
    go_wp2
    go_ret
    exact ⟨rfl, rfl⟩
  · clear h
    go_enter Try.func84, Try.ntmps84
    go_wp2
    go_ret
    exact ⟨rfl, rfl⟩

set_option maxRecDepth 100000 in
set_option maxHeartbeats 400000 in
theorem sVar_any (n : Nat) (w : World) (hn : (n : Int) ≤ 2000000000) :
    Calls Try.prog 99 #[.int .i64 (n : Int)] w fun e w' => e = .returned (.string (bs (varText n))) ∧ Below w.heap.size w w' := by
  go_enter Try.func99, Try.ntmps99
  go_wp2
  go_loopw [0, 3] (fun m v wr => ∃ (k : Nat) (xs : Bs), m = .int .i64 (k : Int) ∧ k ≤ n ∧ xs ++ varText k = varText n ∧ Byt wr w.heap.size v xs ∧ Below w.heap.size w wr) (fun m _ _ => (intOf m).toNat)
  case atStart => exact ⟨n, [], rfl, Nat.le_refl _, rfl, Byt.empty _, (Below.refl _ _).alloc (Nat.le_refl _) _⟩
  case round =>
    obtain ⟨k, xs, rfl, hk, hx, hown, hb⟩ := hrel
    have hl : xs.length ≤ 4 := by have h1 := varText_len hn; have h2 := varText_pos k; have h3 := congrArg List.length hx; simp at h3; omega
    have HX := Lib.hid hx
    clear hx
    by_cases hlt : k ≤ 127
    · go_wp2_with (at_builtin; go_must (refine wp_app_bytes rfl _ _ rfl wr w.heap.size _ xs [UInt8.ofNat k] hown _ (bv1 (by omega)) rfl 1 1 rfl rfl (by simp; omega) hb.size ?_; intro v1 w1 hown1 hb1; have hcv := hown1.string))
      go_ret
      refine ⟨?_, hb.trans hb1⟩
      rw [← HX.out, varText_small hlt]; rfl
    · go_wp2_with (at_builtin; go_must (refine wp_app_bytes rfl _ _ rfl wr w.heap.size _ xs [UInt8.ofNat (128 + k % 128)] hown _ (bv1' (by omega) (by omega)) rfl 1 1 rfl rfl (by simp; omega) hb.size ?_; intro v1 w1 hown1 hb1))
      go_roundw
      case rel => exact ⟨k / 128, xs ++ [UInt8.ofNat (128 + k % 128)], by go_num, by omega, by rw [← HX.out, varText_big hlt]; simp, hown1, hb.trans hb1⟩
      case measure => simp [intOf]; omega

set_option maxRecDepth 100000 in
set_option maxHeartbeats 800000 in
theorem sReadVar_in (s : ByteArray) (p : Nat) (w : World) (hs : (s.size : Int) ≤ 1000000000) (hp : p ≤ s.size) :
    Calls Try.prog 97 #[.string s, .int .i64 (p : Int)] w fun e w' => e = .returned (rvVal (readVar s.data.toList p)) ∧ Below w.heap.size w w' := by
  have hp0 : 0 ≤ (p : Int) := by omega
  have hp1 : (p : Int) ≤ s.size := by omega
  have hfin : ∀ o, rvGo 5 0 0 (s.data.toList.drop p) = o → readVar s.data.toList p = o.map fun x => (x.1, p + x.2) := fun o h => by rw [readVar, h]
  have HF := Lib.hid hfin
  clear hfin
  go_enter Try.func97, Try.ntmps97
  go_wp2_with (go_at_call 84; refine (sin_yes _ _ _ _ hp0 hp1).mono ?_; rintro e w1 ⟨rfl, rfl⟩)
  go_loop [7, 8, 9] (fun n z i => ∃ j m : Nat, i = .int .i64 ((p + j : Nat) : Int) ∧ n = .int .i64 (m : Int) ∧ z = .int .i64 ((128 ^ j : Nat) : Int) ∧ j ≤ 5 ∧ p + j ≤ s.size ∧ Digs ((s.data.toList.drop p).take j) j m ∧ rvGo (5 - j) j m (s.data.toList.drop (p + j)) = rvGo 5 0 0 (s.data.toList.drop p)) (fun _ _ i => p + 5 - (intOf i).toNat)
  case atStart => exact ⟨0, 0, rfl, rfl, rfl, by omega, by omega, digs_nil _, rfl⟩
  case round =>
    obtain ⟨j, m, rfl, rfl, rfl, hj, hpj, hdg, hrv⟩ := hrel
    have hm := hdg.lt
    have HR := Lib.hid hrv
    clear hrv
    by_cases h5 : j < 5
    · by_cases hin : p + j < s.size
      · have hnb := get_nb s
        have hb1 := nb_le s (p + j)
        obtain ⟨b, hbn, hdr⟩ := drop_nb s (p + j) hin
        obtain ⟨hw, hz⟩ := scale_fits m (nb s (p + j)) j h5 hm
        have hf5 : 5 - j = (5 - (j + 1)) + 1 := by omega
        have HB := Lib.hid hbn
        have HD := Lib.hid hdr
        have H5 := Lib.hid hf5
        have HO := Lib.hid hdg
        clear hbn hdr hf5 hdg
        obtain ⟨m', hm'⟩ : ∃ m' : Nat, m + nb s (p + j) % 128 * 2 ^ (7 * j) = m' := ⟨_, rfl⟩
        obtain ⟨z, hz'⟩ : ∃ z : Nat, 128 ^ j = z := ⟨_, rfl⟩
        obtain ⟨z2, hz2⟩ : ∃ z : Nat, 128 ^ (j + 1) = z := ⟨_, rfl⟩
        rw [hm', hz'] at hw
        rw [hz', hz2] at hz
        have HM := Lib.hid hm'
        have HZ := Lib.hid hz'
        have HZ2 := Lib.hid hz2
        rw [hz'] at hm
        rw [hz']
        clear hm' hz' hz2
        have ei : ((p + j : Nat) : Int) = (p : Int) + (j : Int) := by omega
        rw [ei]
        by_cases hx : ((nb s (p + j) : Nat) : Int) < 128
        · have hfin : ∀ o, (if (nb s (p + j) = 0 ∧ 0 < j) ∨ 1000000000 < m' then none else some (m', j + 1)) = o → readVar s.data.toList p = o.map fun x => (x.1, p + x.2) := by
            rintro o rfl
            refine HF.out _ ?_
            have hmul : nb s (p + j) % 128 = nb s (p + j) := by omega
            rw [← HR.out, HD.out, H5.out, rvGo, if_pos (by rw [HB.out]; omega), HB.out, ← HM.out, hmul]
          have hl := HO.out.last HD.out (by rw [HB.out]; omega)
          rw [HB.out, HM.out] at hl
          have HX := Lib.hid hfin
          have HL := Lib.hid hl
          clear hfin hl
          by_cases hm1 : (m' : Int) ≤ 1000000000
          · have hm2 : (m' : Int) ≤ 2000000000 := by omega
            have hd1 : decide ((1000000000 : Int) < (m' : Int)) = false := by simp; omega
            have hex : (s.extract p (p + j + 1)).data.toList = (s.data.toList.drop p).take (j + 1) := by
              rw [data_extract]; congr 1; omega
            by_cases hbad : nb s (p + j) = 0 ∧ 0 < j
            · have hne : ((bs (varText m')).toList == (s.extract p (p + j + 1)).toList) = false := by
                rw [toList_data, toList_data, bs_data, hex, beq_eq_false_iff_ne]
                intro h; exact (HL.out.1 h) hbad
              clear hex
              have HBad := Lib.hid hbad
              clear hbad
              have k1 : (0 : Int) ≤ (p : Int) + (j : Int) + 1 := by omega
              have k2 : (p : Int) ≤ (p : Int) + (j : Int) + 1 := by omega
              have k3 : (p : Int) + (j : Int) + 1 ≤ (s.size : Int) := by omega
              have k4 : ((p : Int) + (j : Int) + 1).toNat = p + j + 1 := by omega
              have k5 : IntKind.i64.wrap ((p : Int) + (j : Int) + 1) = (p : Int) + (j : Int) + 1 := IntWalk.i64_in _ (by omega)
              go_wp2_with (fail)
              go_region_held3 (fun _ => True) (trivial) (first | (go_at_call 99; refine (sVar_any m' _ hm2).mono ?_; rintro e w1 ⟨rfl, hbw⟩) | fail)
              clear k4 k5
              go_wp2
              go_ret3
              exact ⟨by rw [HX.out _ (if_pos (.inl HBad.out))]; rfl, (Below.refl _ w).drew.trans hbw⟩
            · have hne : ((bs (varText m')).toList == (s.extract p (p + j + 1)).toList) = true := by
                rw [toList_data, toList_data, bs_data, hex, beq_iff_eq]
                exact HL.out.2 hbad
              clear hex
              have HBad := Lib.hid hbad
              clear hbad
              have k1 : (0 : Int) ≤ (p : Int) + (j : Int) + 1 := by omega
              have k2 : (p : Int) ≤ (p : Int) + (j : Int) + 1 := by omega
              have k3 : (p : Int) + (j : Int) + 1 ≤ (s.size : Int) := by omega
              have k4 : ((p : Int) + (j : Int) + 1).toNat = p + j + 1 := by omega
              have k5 : IntKind.i64.wrap ((p : Int) + (j : Int) + 1) = (p : Int) + (j : Int) + 1 := IntWalk.i64_in _ (by omega)
              go_wp2_with (fail)
              go_region_held3 (fun _ => True) (trivial) (first | (go_at_call 99; refine (sVar_any m' _ hm2).mono ?_; rintro e w1 ⟨rfl, hbw⟩) | fail)
              clear k4 k5
              go_wp2
              go_ret3
              exact ⟨by rw [HX.out _ (if_neg (by have := HBad.out; omega))]; rfl, (Below.refl _ w).drew.trans hbw⟩
          · have hd1 : decide ((1000000000 : Int) < (m' : Int)) = true := by simp; omega
            have k5 : IntKind.i64.wrap ((p : Int) + (j : Int) + 1) = (p : Int) + (j : Int) + 1 := IntWalk.i64_in _ (by omega)
            go_wp2_with (fail)
            go_quiet (fail)
            clear k5
            go_wp2
            go_ret3
            exact ⟨by rw [HX.out _ (if_pos (by omega))]; rfl, below_drewN (Below.refl _ _) _⟩
        · have hG : Digs ((s.data.toList.drop p).take (j + 1)) (j + 1) m' := by
            have := HO.out.snoc HD.out (by rw [HB.out]; omega)
            rw [HB.out, HM.out] at this; exact this
          have hR : rvGo (5 - (j + 1)) (j + 1) m' (s.data.toList.drop (p + (j + 1))) = rvGo 5 0 0 (s.data.toList.drop p) := by
            rw [← HR.out, HD.out, H5.out, rvGo_more _ _ _ _ _ (by rw [HB.out]; omega), HB.out, HM.out, Nat.add_assoc]
          have HG := Lib.hid hG
          have HR' := Lib.hid hR
          clear hG hR
          go_wp2
          go_round
          case rel =>
            exact ⟨j + 1, m', by go_num, congrArg (Value.int .i64) hw, by rw [HZ2.out]; exact congrArg (Value.int .i64) hz, by omega, by omega, HG.out, HR'.out⟩
          case measure => simp [intOf]; omega
      · have hnil : s.data.toList.drop (p + j) = [] := List.drop_eq_nil_of_le (by rw [size_data]; omega)
        have HN := Lib.hid hnil
        clear hnil
        have ei : ((p + j : Nat) : Int) = (p : Int) + (j : Int) := by omega
        rw [ei]
        go_wp2
        go_ret3
        exact ⟨by rw [HF.out _ (HR.out.symm.trans (by rw [HN.out, rvGo_stop1]))]; rfl, Below.refl _ _⟩
    · have hnil : 5 - j = 0 := by omega
      have HN := Lib.hid hnil
      clear hnil
      have ei : ((p + j : Nat) : Int) = (p : Int) + (j : Int) := by omega
      rw [ei]
      go_wp2
      all_goals
        go_ret3
        exact ⟨by rw [HF.out _ (HR.out.symm.trans (by rw [HN.out, rvGo_stop0]))]; rfl, Below.refl _ _⟩

theorem sReadVar_none {s : ByteArray} {p : Nat} (w : World) (hs : (s.size : Int) ≤ 1000000000) (hp : p ≤ s.size) (h : readVar s.data.toList p = none) :
    Calls Try.prog 97 #[.string s, .int .i64 (p : Int)] w fun e w' => e = .returned (.tuple #[.int .i64 0, .int .i64 0, .bool false]) ∧ Below w.heap.size w w' := by
  have := sReadVar_in s p w hs hp
  rw [h] at this; exact this
theorem sReadVar_some {s : ByteArray} {p n q : Nat} (w : World) (hs : (s.size : Int) ≤ 1000000000) (hp : p ≤ s.size) (h : readVar s.data.toList p = some (n, q)) :
    Calls Try.prog 97 #[.string s, .int .i64 (p : Int)] w fun e w' => e = .returned (.tuple #[.int .i64 (n : Int), .int .i64 (q : Int), .bool true]) ∧ Below w.heap.size w w' := by
  have := sReadVar_in s p w hs hp
  rw [h] at this; exact this

set_option maxRecDepth 100000 in
set_option maxHeartbeats 400000 in
theorem sReadShort_in (s : ByteArray) (p : Nat) (w : World) (hs : (s.size : Int) ≤ 1000000000) (hp : p ≤ s.size) :
    Calls Try.prog 98 #[.string s, .int .i64 (p : Int)] w fun e w' => e = .returned (rsVal (readShort s.data.toList p)) ∧ Below w.heap.size w w' := by
  rcases hr : readVar s.data.toList p with _ | ⟨n, q⟩
  · have hfin : readShort s.data.toList p = none := by rw [readShort, hr]
    have HR := Lib.hid hr
    have HF := Lib.hid hfin
    clear hr hfin
    go_enter Try.func98, Try.ntmps98
    go_wp2_with (go_at_call 97; refine (sReadVar_none _ hs hp HR.out).mono ?_; rintro e w1 ⟨rfl, hb1⟩)
    go_ret3
    exact ⟨by rw [HF.out]; rfl, hb1⟩
  · obtain ⟨hpq, hq, _hq5, hn⟩ := readVar_bounds hr
    rw [size_data] at hq
    have HR := Lib.hid hr
    clear hr
    by_cases h1 : (n : Int) ≤ 20000
    · by_cases h2 : (n : Int) ≤ (s.size : Int) - (q : Int)
      · have hfin : readShort s.data.toList p = some ((s.data.toList.drop q).take n, q + n) := by
          rw [readShort, HR.out]; simp only [size_data]; rw [if_pos ⟨by omega, by omega⟩]
        have HF := Lib.hid hfin
        clear hfin
        go_enter Try.func98, Try.ntmps98
        go_wp2_with (go_at_call 97; refine (sReadVar_some _ hs hp HR.out).mono ?_; rintro e w1 ⟨rfl, hb1⟩)
        go_ret3
        refine ⟨?_, hb1⟩
        rw [HF.out]
        have e1 : s.extract q (q + n) = bs ((s.data.toList.drop q).take n) := data_ext (by rw [data_extract, bs_data, Nat.add_sub_cancel_left])
        show Ending.returned (.tuple #[.string (s.extract q (q + n)), .int .i64 ((q : Int) + (n : Int)), .bool true]) = Ending.returned (.tuple #[.string (bs ((s.data.toList.drop q).take n)), .int .i64 ((q + n : Nat) : Int), .bool true])
        rw [e1, Int.natCast_add]
      · have hfin : readShort s.data.toList p = none := by
          rw [readShort, HR.out]; simp only [size_data]; rw [if_neg (by omega)]
        have HF := Lib.hid hfin
        clear hfin
        go_enter Try.func98, Try.ntmps98
        go_wp2_with (go_at_call 97; refine (sReadVar_some _ hs hp HR.out).mono ?_; rintro e w1 ⟨rfl, hb1⟩)
        go_ret3
        exact ⟨by rw [HF.out]; rfl, hb1⟩
    · have hfin : readShort s.data.toList p = none := by
        rw [readShort, HR.out]; simp only [size_data]; rw [if_neg (by omega)]
      have HF := Lib.hid hfin
      clear hfin
      go_enter Try.func98, Try.ntmps98
      go_wp2_with (go_at_call 97; refine (sReadVar_some _ hs hp HR.out).mono ?_; rintro e w1 ⟨rfl, hb1⟩)
      go_ret3
      exact ⟨by rw [HF.out]; rfl, hb1⟩
theorem sReadShort_none {s : ByteArray} {p : Nat} (w : World) (hs : (s.size : Int) ≤ 1000000000) (hp : p ≤ s.size) (h : readShort s.data.toList p = none) :
    Calls Try.prog 98 #[.string s, .int .i64 (p : Int)] w fun e w' => e = .returned (.tuple #[.string (bs []), .int .i64 0, .bool false]) ∧ Below w.heap.size w w' := by
  have := sReadShort_in s p w hs hp
  rw [h] at this; exact this
theorem sReadShort_some {s : ByteArray} {p q : Nat} {l : Bs} (w : World) (hs : (s.size : Int) ≤ 1000000000) (hp : p ≤ s.size) (h : readShort s.data.toList p = some (l, q)) :
    Calls Try.prog 98 #[.string s, .int .i64 (p : Int)] w fun e w' => e = .returned (.tuple #[.string (bs l), .int .i64 (q : Int), .bool true]) ∧ Below w.heap.size w w' := by
  have := sReadShort_in s p w hs hp
  rw [h] at this; exact this
end Go.Proofs.Ytkdajahiaedoiaa
