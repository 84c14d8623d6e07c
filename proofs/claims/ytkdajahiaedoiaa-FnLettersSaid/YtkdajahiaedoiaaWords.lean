/- What the small functions on numbers and strings compute. -/
import Derived.Test.YtkdajahiaedoiaaRows
import Derived.Test.YtkdajahiaedoiaaMem
import Derived.WalkKit
import Derived.WalkSpells
import Derived.WalkLawsBesides
import Derived.Lib.Hide
import Derived.Deep.DeepMust
import Derived.PlainAid
namespace Go.Proofs.Ytkdajahiaedoiaa
open Go.RowKit Pl

set_option maxHeartbeats 400000 in
theorem in_yes (n lo hi : Int) (w : World) (h : lo ≤ n) (h2 : n ≤ hi) :
    Calls Try.prog 86 #[.int .i64 n, .int .i64 lo, .int .i64 hi] w fun e w' => e = .returned (.bool true) ∧ w = w' := by
  go_enter Try.func86, Try.ntmps86
  go_wp2
  go_ret
  exact ⟨rfl, rfl⟩
set_option maxHeartbeats 400000 in
theorem in_no (n lo hi : Int) (w : World) (h : ¬ (lo ≤ n ∧ n ≤ hi)) :
    Calls Try.prog 86 #[.int .i64 n, .int .i64 lo, .int .i64 hi] w fun e w' => e = .returned (.bool false) ∧ w = w' := by
  by_cases h1 : lo ≤ n
  · have h2 : ¬ n ≤ hi := fun c => h ⟨h1, c⟩
    clear h
    go_enter Try.func86, Try.ntmps86
    go_wp2
    go_ret
    exact ⟨rfl, rfl⟩
  · clear h
    go_enter Try.func86, Try.ntmps86
    go_wp2
    go_ret
    exact ⟨rfl, rfl⟩

set_option maxRecDepth 100000 in
set_option maxHeartbeats 400000 in
theorem varText_any (n : Nat) (w : World) (hn : (n : Int) ≤ 2000000000) :
    Calls Try.prog 83 #[.int .i64 (n : Int)] w fun e w' => e = .returned (.string (bs (varText n))) ∧ Below w.heap.size w w' := by
  obtain ⟨i0, hi0, hz0, hz1, hz2⟩ := info_parts byte_info
  go_enter Try.func83, Try.ntmps83
  go_wp2
  go_loopw [0, 3] (fun m v wr => ∃ (k : Nat) (xs : Bs), m = .int .i64 (k : Int) ∧ k ≤ n ∧ xs ++ varText k = varText n ∧ Byt wr w.heap.size v xs ∧ Below w.heap.size w wr) (fun m _ _ => (intOf m).toNat)
  case atStart => exact ⟨n, [], rfl, Nat.le_refl _, rfl, Byt.nil _ _, Below.refl _ _⟩
  case round =>
    obtain ⟨k, xs, rfl, hk, hx, hown, hb⟩ := hrel
    have hl : xs.length ≤ 4 := by have h1 := varText_len hn; have h2 := varText_pos k; have h3 := congrArg List.length hx; simp at h3; omega
    have HX := Lib.hid hx
    clear hx
    by_cases hlt : k ≤ 127
    · go_wp2_with (at_builtin; go_must (refine wp_app_bytes rfl _ _ rfl wr w.heap.size _ xs [UInt8.ofNat k] hown _ (bv1 (by omega)) rfl 1 1 rfl rfl (by simp; omega) hb.size ?_; intro v1 w1 hown1 hb1; have hcv := hown1.string))
      go_ret
      refine ⟨?_, hb.trans hb1⟩
      rw [← HX.out, varText_small hlt]; rfl
    · go_wp2_with (at_builtin; go_must (refine wp_app_bytes rfl _ _ rfl wr w.heap.size _ xs [UInt8.ofNat (128 + k % 128)] hown _ (bv1' (by omega) (by omega)) rfl 1 1 rfl rfl (by simp; omega) hb.size ?_; intro v1 w1 hown1 hb1))
      go_roundw
      case rel => exact ⟨k / 128, xs ++ [UInt8.ofNat (128 + k % 128)], by go_num, by omega, by rw [← HX.out, varText_big hlt]; simp, hown1, hb.trans hb1⟩
      case measure => simp [intOf]; omega

set_option maxRecDepth 100000 in
set_option maxHeartbeats 400000 in
theorem shortText_any (s : ByteArray) (w : World) (hn : (s.size : Int) ≤ 2000000000) :
    Calls Try.prog 92 #[.string s] w fun e w' => e = .returned (.string (bs (shortText s.data.toList))) ∧ Below w.heap.size w w' := by
  have hl := varText_len hn
  have hz := bs_size (varText s.size)
  have hb : (bs (varText s.size)).size ≤ 5 := by omega
  clear hz
  go_enter Try.func92, Try.ntmps92
  go_wp2_with (go_at_call 83; refine (varText_any s.size _ hn).mono ?_; rintro e w1 ⟨rfl, hb1⟩)
  go_ret
  refine ⟨?_, hb1⟩
  refine congrArg (fun x => Ending.returned (Value.string x)) (data_ext ?_)
  rw [data_append, bs_data, bs_data, shortText, size_data]

/-- What ReadVar hands back. -/
def rvVal : Option (Nat × Nat) → Value
  | none => .tuple #[.int .i64 0, .int .i64 0, .bool false]
  | some (n, q) => .tuple #[.int .i64 (n : Int), .int .i64 (q : Int), .bool true]

set_option maxRecDepth 100000 in
set_option maxHeartbeats 400000 in
theorem readVar_in (s : ByteArray) (p : Nat) (w : World) (hs : (s.size : Int) ≤ 1000000000) (hp : p ≤ s.size) :
    Calls Try.prog 100 #[.string s, .int .i64 (p : Int)] w fun e w' => e = .returned (rvVal (readVar s.data.toList p)) ∧ w = w' := by
  have hp0 : 0 ≤ (p : Int) := by omega
  have hp1 : (p : Int) ≤ s.size := by omega
  have hfin : ∀ o, rvGo 5 0 0 (s.data.toList.drop p) = o → readVar s.data.toList p = o.map fun x => (x.1, p + x.2) := fun o h => by rw [readVar, h]
  have HF := Lib.hid hfin
  clear hfin
  go_enter Try.func100, Try.ntmps100
  go_wp2_with (go_at_call 86; refine (in_yes _ _ _ _ hp0 hp1).mono ?_; rintro e w1 ⟨rfl, rfl⟩)
  go_loop [7, 8] (fun n k => ∃ j m : Nat, k = .int .i64 (j : Int) ∧ n = .int .i64 (m : Int) ∧ j ≤ 5 ∧ m < 128 ^ j ∧ rvGo (5 - j) j m (s.data.toList.drop (p + j)) = rvGo 5 0 0 (s.data.toList.drop p)) (fun _ k => 5 - (intOf k).toNat)
  case atStart => exact ⟨0, 0, rfl, rfl, by omega, by omega, rfl⟩
  case round =>
    obtain ⟨j, m, rfl, rfl, hj, hm, hrv⟩ := hrel
    have HR := Lib.hid hrv
    clear hrv
    by_cases h5 : j < 5
    · by_cases hin : p + j < s.size
      · have hnb := get_nb s
        have hb1 := nb_le s (p + j)
        obtain ⟨b, hbn, hdr⟩ := drop_nb s (p + j) hin
        obtain ⟨hw, hlt⟩ := shift_fits m (nb s (p + j)) j h5 hm
        have hf5 : 5 - j = (5 - (j + 1)) + 1 := by omega
        have HB := Lib.hid hbn
        have HD := Lib.hid hdr
        have H5 := Lib.hid hf5
        have HL := Lib.hid hlt
        clear hbn hdr hf5 hlt
        obtain ⟨m', hm'⟩ : ∃ m' : Nat, m + nb s (p + j) % 128 * 2 ^ (7 * j) = m' := ⟨_, rfl⟩
        rw [hm'] at hw
        have HM := Lib.hid hm'
        clear hm'
        by_cases hx : ((nb s (p + j) : Nat) : Int) < 128
        · have hmul : nb s (p + j) % 128 = nb s (p + j) := by omega
          have HU := Lib.hid hmul
          clear hmul
          have hfin : ∀ o, (if (nb s (p + j) = 0 ∧ 0 < j) ∨ 1000000000 < m' then none else some (m', j + 1)) = o → readVar s.data.toList p = o.map fun x => (x.1, p + x.2) := by
            rintro o rfl
            refine HF.out _ ?_
            rw [← HR.out, HD.out, H5.out, rvGo, if_pos (by rw [HB.out]; omega), HB.out, ← HM.out, HU.out]
          have HX := Lib.hid hfin
          clear hfin
          by_cases hbad : nb s (p + j) = 0
          · by_cases hj0 : 0 < j
            · have h1 : (((nb s (p + j) : Nat) : Int) == 0) = true := by simp [hbad]
              have h2 : (0 : Int) < (j : Int) := by omega
              have HBad := Lib.hid hbad
              clear hbad
              go_wp2
              go_ret3
              exact ⟨by rw [HX.out _ (if_pos (.inl ⟨HBad.out, hj0⟩))]; rfl, rfl⟩
            · have h1 : (((nb s (p + j) : Nat) : Int) == 0) = true := by simp [hbad]
              have h2 : decide ((0 : Int) < (j : Int)) = false := by simp; omega
              have HBad := Lib.hid hbad
              clear hbad
              by_cases hm1 : (m' : Int) ≤ 1000000000
              · go_wp2
                go_ret3
                exact ⟨by rw [HX.out _ (if_neg (by omega))]; rfl, rfl⟩
              · go_wp2
                go_ret3
                exact ⟨by rw [HX.out _ (if_pos (by omega))]; rfl, rfl⟩
          · have h1 : (((nb s (p + j) : Nat) : Int) == 0) = false := by simp; omega
            by_cases hm1 : (m' : Int) ≤ 1000000000
            · go_wp2
              go_ret3
              exact ⟨by rw [HX.out _ (if_neg (by omega))]; rfl, rfl⟩
            · go_wp2
              go_ret3
              exact ⟨by rw [HX.out _ (if_pos (by omega))]; rfl, rfl⟩
        · go_wp2
          go_round
          case rel =>
            refine ⟨j + 1, m', by go_num, congrArg (Value.int .i64) hw, by omega, by rw [← HM.out]; exact HL.out, ?_⟩
            rw [← HR.out, HD.out, H5.out, rvGo_more _ _ _ _ _ (by rw [HB.out]; omega), HB.out, HM.out, Nat.add_assoc]
          case measure => simp [intOf]; omega
      · have hnil : s.data.toList.drop (p + j) = [] := List.drop_eq_nil_of_le (by rw [size_data]; omega)
        have HN := Lib.hid hnil
        clear hnil
        go_wp2
        go_ret3
        exact ⟨by rw [HF.out _ (HR.out.symm.trans (by rw [HN.out, rvGo_stop1]))]; rfl, rfl⟩
    · have hnil : 5 - j = 0 := by omega
      have HN := Lib.hid hnil
      clear hnil
      go_wp2
      go_ret3
      exact ⟨by rw [HF.out _ (HR.out.symm.trans (by rw [HN.out, rvGo_stop0]))]; rfl, rfl⟩

theorem readVar_none {s : ByteArray} {p : Nat} (w : World) (hs : (s.size : Int) ≤ 1000000000) (hp : p ≤ s.size) (h : readVar s.data.toList p = none) :
    Calls Try.prog 100 #[.string s, .int .i64 (p : Int)] w fun e w' => e = .returned (.tuple #[.int .i64 0, .int .i64 0, .bool false]) ∧ w = w' := by
  have := readVar_in s p w hs hp
  rw [h] at this; exact this
theorem readVar_some {s : ByteArray} {p n q : Nat} (w : World) (hs : (s.size : Int) ≤ 1000000000) (hp : p ≤ s.size) (h : readVar s.data.toList p = some (n, q)) :
    Calls Try.prog 100 #[.string s, .int .i64 (p : Int)] w fun e w' => e = .returned (.tuple #[.int .i64 (n : Int), .int .i64 (q : Int), .bool true]) ∧ w = w' := by
  have := readVar_in s p w hs hp
  rw [h] at this; exact this

/-- What ReadShort hands back. -/
def rsVal : Option (Bs × Nat) → Value
  | none => .tuple #[.string (bs []), .int .i64 0, .bool false]
  | some (l, q) => .tuple #[.string (bs l), .int .i64 (q : Int), .bool true]

set_option maxRecDepth 100000 in
set_option maxHeartbeats 400000 in
theorem readShort_in (s : ByteArray) (p : Nat) (w : World) (hs : (s.size : Int) ≤ 1000000000) (hp : p ≤ s.size) :
    Calls Try.prog 101 #[.string s, .int .i64 (p : Int)] w fun e w' => e = .returned (rsVal (readShort s.data.toList p)) ∧ w = w' := by
  rcases hr : readVar s.data.toList p with _ | ⟨n, q⟩
  · have hfin : readShort s.data.toList p = none := by rw [readShort, hr]
    have HR := Lib.hid hr
    have HF := Lib.hid hfin
    clear hr hfin
    go_enter Try.func101, Try.ntmps101
    go_wp2_with (go_at_call 100; refine (readVar_none _ hs hp HR.out).mono ?_; rintro e w1 ⟨rfl, rfl⟩)
    go_ret3
    exact ⟨by rw [HF.out]; rfl, rfl⟩
  · obtain ⟨hpq, hq, _hq5, hn⟩ := readVar_bounds hr
    rw [size_data] at hq
    have HR := Lib.hid hr
    clear hr
    by_cases h1 : (n : Int) ≤ 20000
    · by_cases h2 : (n : Int) ≤ (s.size : Int) - (q : Int)
      · have hfin : readShort s.data.toList p = some ((s.data.toList.drop q).take n, q + n) := by
          rw [readShort, HR.out]; simp only [size_data]; rw [if_pos ⟨by omega, by omega⟩]
        have HF := Lib.hid hfin
        clear hfin
        go_enter Try.func101, Try.ntmps101
        go_wp2_with (go_at_call 100; refine (readVar_some _ hs hp HR.out).mono ?_; rintro e w1 ⟨rfl, rfl⟩)
        go_ret3
        refine ⟨?_, rfl⟩
        rw [HF.out]
        have e1 : s.extract q (q + n) = bs ((s.data.toList.drop q).take n) := data_ext (by rw [data_extract, bs_data, Nat.add_sub_cancel_left])
        show Ending.returned (.tuple #[.string (s.extract q (q + n)), .int .i64 ((q : Int) + (n : Int)), .bool true]) = Ending.returned (.tuple #[.string (bs ((s.data.toList.drop q).take n)), .int .i64 ((q + n : Nat) : Int), .bool true])
        rw [e1, Int.natCast_add]
      · have hfin : readShort s.data.toList p = none := by
          rw [readShort, HR.out]; simp only [size_data]; rw [if_neg (by omega)]
        have HF := Lib.hid hfin
        clear hfin
        go_enter Try.func101, Try.ntmps101
        go_wp2_with (go_at_call 100; refine (readVar_some _ hs hp HR.out).mono ?_; rintro e w1 ⟨rfl, rfl⟩)
        go_ret3
        exact ⟨by rw [HF.out]; rfl, rfl⟩
    · have hfin : readShort s.data.toList p = none := by
        rw [readShort, HR.out]; simp only [size_data]; rw [if_neg (by omega)]
      have HF := Lib.hid hfin
      clear hfin
      go_enter Try.func101, Try.ntmps101
      go_wp2_with (go_at_call 100; refine (readVar_some _ hs hp HR.out).mono ?_; rintro e w1 ⟨rfl, rfl⟩)
      go_ret3
      exact ⟨by rw [HF.out]; rfl, rfl⟩

theorem readShort_none {s : ByteArray} {p : Nat} (w : World) (hs : (s.size : Int) ≤ 1000000000) (hp : p ≤ s.size) (h : readShort s.data.toList p = none) :
    Calls Try.prog 101 #[.string s, .int .i64 (p : Int)] w fun e w' => e = .returned (.tuple #[.string (bs []), .int .i64 0, .bool false]) ∧ w = w' := by
  have := readShort_in s p w hs hp
  rw [h] at this; exact this
theorem readShort_some {s : ByteArray} {p q : Nat} {l : Bs} (w : World) (hs : (s.size : Int) ≤ 1000000000) (hp : p ≤ s.size) (h : readShort s.data.toList p = some (l, q)) :
    Calls Try.prog 101 #[.string s, .int .i64 (p : Int)] w fun e w' => e = .returned (.tuple #[.string (bs l), .int .i64 (q : Int), .bool true]) ∧ w = w' := by
  have := readShort_in s p w hs hp
  rw [h] at this; exact this
end Go.Proofs.Ytkdajahiaedoiaa
