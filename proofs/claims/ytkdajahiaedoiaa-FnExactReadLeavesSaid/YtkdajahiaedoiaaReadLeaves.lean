/- ReadLeaves of both sides. -/
import Derived.Test.YtkdajahiaedoiaaLeafSpec
import Derived.Test.YtkdajahiaedoiaaPlainLeaf2
namespace Go.Proofs.Ytkdajahiaedoiaa
open Go.RowKit Pl
set_option linter.unusedVariables false

theorem OwL.more {w : World} {base base' : Nat} {v : Value} {n : Nat} {l : List Lf} (h : OwL w base v n l) (hb : base' ≤ base) : OwL w base' v n l := by
  refine ⟨h.1, h.2.1, ?_⟩
  rcases h.2.2 with h2 | ⟨g, cap, cur, h3, h4, h5⟩
  · exact .inl h2
  · exact .inr ⟨g, cap, cur, h3, Nat.le_trans hb h4, h5⟩
theorem OwL.nil (w : World) (base : Nat) : OwL w base (.slice none 0 0) 0 [] := ⟨rfl, row_nil _ _ _ _⟩
theorem OwL.empty (w : World) (base : Nat) (hb : base ≤ w.heap.size) : OwL (w.alloc (.cells #[] 47)) base (.slice (some ⟨w.heap.size, 0, none⟩) 0 0) 0 [] := ⟨rfl, row_empty _ _ _ _ hb⟩
/-- A list and whether it was read. -/
def LvRes (o : Option (List Lf)) (w : World) (e : Ending) (w' : World) : Prop :=
  ∃ A c, e = .returned (.tuple #[.slice A (o.getD []).length c, .bool o.isSome]) ∧ OwL w' w.heap.size (.slice A (o.getD []).length c) (o.getD []).length (o.getD []) ∧ Below w.heap.size w w'

set_option maxRecDepth 100000 in
set_option maxHeartbeats 400000 in
theorem readLeaves_any (s : ByteArray) (w : World) (hs : (s.size : Int) ≤ 1000000000) :
    Calls Try.prog 17 #[.string s] w (LvRes (readLvI s.data.toList) w) := by
  obtain ⟨R, hR⟩ : ∃ R, leavesI s.data.toList 0 false = R := ⟨_, rfl⟩
  have hle : R.2.1 ≤ s.size := by rw [← hR]; have := leavesI_le (t := s.data.toList) (p := 0) (b := false) (by omega); rwa [size_data] at this
  obtain ⟨o, ho⟩ : ∃ o, readLvI s.data.toList = o := ⟨_, rfl⟩
  have ho' := ho
  rw [readLvI, hR] at ho'
  have hF := Fld.new (w := w) (s := s) rfl
  rw [ho]
  have C := fleaves_any w.heap.size s 0 false (w.alloc (.cells #[.string s, .int .i64 0, .bool false] 77)) hs (by omega) hF
  rw [hR] at C
  rw [size_data] at ho'
  have HR := Lib.hid hR
  have HO := Lib.hid ho
  have HD := Lib.hid ho'
  have HC := Lib.hid C
  clear hR ho ho' C
  go_enter Try.func17, Try.ntmps17
  go_wp2_with (fail)
  refine HC.out.mono ?_
  rintro e w1 ⟨A, c, rfl, hown, hF1, hO1⟩
  have hB1 : Below w.heap.size w w1 := Only.below (w' := w1) (((Only.refl w.heap.size w).alloc _).trans hO1) (Nat.le_refl _) (Nat.le_refl _)
  have HB1 := Lib.hid hB1
  have HOwn := Lib.hid (hown.more (base' := w.heap.size) (by simp))
  clear hB1 hown hO1
  rcases hd : doneB R.2.2 R.2.1 s.size with _ | _
  · have ho2 := HD.out
    rw [hd] at ho2
    simp at ho2
    have HO2 := Lib.hid ho2
    have HDN := Lib.hid hd
    clear ho2 hd
    go_wp2_with (fail)
    refine (fdone_eq hs hle HDN.out hF1).mono ?_
    rintro e w2 ⟨rfl, n2, rfl⟩
    go_wp2
    go_ret2
    refine ⟨none, 0, ?_, ?_, below_drewN HB1.out _⟩
    · rw [← HO2.out]; rfl
    · rw [← HO2.out]; exact OwL.nil _ _
  · have ho2 := HD.out
    rw [hd] at ho2
    simp at ho2
    have HO2 := Lib.hid ho2
    have HDN := Lib.hid hd
    clear ho2 hd
    go_wp2_with (fail)
    refine (fdone_eq hs hle HDN.out hF1).mono ?_
    rintro e w2 ⟨rfl, n2, rfl⟩
    go_wp2
    go_ret2
    refine ⟨A, c, ?_, ?_, below_drewN HB1.out _⟩
    · rw [← HO2.out]; rfl
    · rw [← HO2.out]; exact HOwn.out

set_option maxRecDepth 100000 in
set_option maxHeartbeats 400000 in
theorem sReadLeaves_any (s : ByteArray) (w : World) (hs : (s.size : Int) ≤ 1000000000) :
    Calls Try.prog 16 #[.string s] w (LvRes (readLvS s.data.toList) w) := by
  obtain ⟨R, hR⟩ : ∃ R, leavesS s.data.toList 0 false = R := ⟨_, rfl⟩
  obtain ⟨o, ho⟩ : ∃ o, readLvS s.data.toList = o := ⟨_, rfl⟩
  have ho' := ho
  rw [readLvS, hR] at ho'
  have hF := Cur.new (w := w) (s := s) (b := false) rfl
  rw [ho]
  have C := sleaves_any w.heap.size s 0 false (w.alloc (.cells #[.string s, .int .i64 0, .bool false] 73)) hs (by omega) hF
  rw [hR] at C
  have HR := Lib.hid hR
  have HO := Lib.hid ho
  have HD := Lib.hid ho'
  have HC := Lib.hid C
  clear hR ho ho' C
  go_enter Try.func16, Try.ntmps16
  go_wp2_with (fail)
  refine HC.out.mono ?_
  rintro e w1 ⟨⟨A, c, rfl, hown, hF1, hO1⟩, hsm, hlen⟩
  have hB1 : Below w.heap.size w w1 := Only.below (w' := w1) (((Only.refl w.heap.size w).alloc _).trans hO1) (Nat.le_refl _) (Nat.le_refl _)
  have HB1 := Lib.hid hB1
  have HOwn := Lib.hid (hown.more (base' := w.heap.size) (by simp))
  have hrd := hown.rd
  have hgx := Box.lt hF1
  clear hB1 hown hO1
  cases hok : leavesOk R.1
  · have ho2 := HD.out
    rw [hok] at ho2
    simp at ho2
    have HO2 := Lib.hid ho2
    have HOK := Lib.hid hok
    clear ho2 hok
    go_wp2_with (fail)
    refine (sLeavesText_no A R.1.length c R.1 w1 (by omega) hrd hsm HOK.out).mono ?_
    rintro e w2 ⟨rfl, hb2⟩
    have hF2 : Cur w2 w.heap.size s R.2.1 R.2.2 := Box.below hF1 hb2 hgx
    have c2 := hF2.c2
    have HB2 := Lib.hid (HB1.out.trans (hb2.mono HB1.out.size))
    clear hb2 hF1 hF2
    have hr : R.2.2 = true ∨ R.2.2 = false := by cases R.2.2 <;> simp
    rcases hr with hr | hr
    all_goals
      rw [hr] at c2
      go_wp2
      go_ret2
      refine ⟨some ⟨w2.heap.size, 0, none⟩, 0, ?_, ?_, Below.alloc HB2.out HB2.out.size _⟩
      · rw [← HO2.out]; rfl
      · rw [← HO2.out]; exact OwL.empty _ _ HB2.out.size
  · have CT := sLeavesText_yes A R.1.length c R.1 w1 (by omega) hrd hsm hok
    obtain ⟨y, hy⟩ : ∃ y, bs (leavesText R.1) = y := ⟨_, rfl⟩
    rw [hy] at CT
    by_cases htx : leavesText R.1 = s.data.toList
    · obtain rfl : s = y := by rw [← hy, htx]; exact (data_bs s).symm
      cases hr : R.2.2
      · have ho2 := HD.out
        rw [hok, hr] at ho2
        simp [htx] at ho2
        have HO2 := Lib.hid ho2
        have HCT := Lib.hid CT
        have HR2 := Lib.hid hr
        clear ho2 hok htx hy CT hr
        go_wp2_with (fail)
        refine HCT.out.mono ?_
        rintro e w2 ⟨rfl, hb2⟩
        have hF2 : Cur w2 w.heap.size s R.2.1 R.2.2 := Box.below hF1 hb2 hgx
        have c2 := hF2.c2
        rw [HR2.out] at c2
        have HB2 := Lib.hid (HB1.out.trans (hb2.mono HB1.out.size))
        have HOwn2 := Lib.hid (HOwn.out.below hb2)
        clear hb2 hF1 hF2
        go_wp2
        go_ret2
        refine ⟨A, c, ?_, ?_, HB2.out⟩
        · rw [← HO2.out]; rfl
        · rw [← HO2.out]; exact HOwn2.out
      · have ho2 := HD.out
        rw [hr] at ho2
        simp at ho2
        have HO2 := Lib.hid ho2
        have HCT := Lib.hid CT
        have HR2 := Lib.hid hr
        clear ho2 hok htx hy CT hr
        go_wp2_with (fail)
        refine HCT.out.mono ?_
        rintro e w2 ⟨rfl, hb2⟩
        have hF2 : Cur w2 w.heap.size s R.2.1 R.2.2 := Box.below hF1 hb2 hgx
        have c2 := hF2.c2
        rw [HR2.out] at c2
        have HB2 := Lib.hid (HB1.out.trans (hb2.mono HB1.out.size))
        clear hb2 hF1 hF2
        go_wp2
        go_ret2
        refine ⟨some ⟨w2.heap.size, 0, none⟩, 0, ?_, ?_, Below.alloc HB2.out HB2.out.size _⟩
        · rw [← HO2.out]; rfl
        · rw [← HO2.out]; exact OwL.empty _ _ HB2.out.size
    · have hne : ¬ y = s := by
        intro h0
        rw [← hy] at h0
        exact htx (by rw [← h0, bs_data])
      have hne2 : (y.toList == s.toList) = false := by
        simp only [beq_eq_false_iff_ne, ne_eq]
        intro h0
        rw [toList_data, toList_data] at h0
        exact hne (data_ext h0)
      have ho2 := HD.out
      simp [htx] at ho2
      have HO2 := Lib.hid ho2
      have HCT := Lib.hid CT
      clear ho2 hok htx hy CT
      go_wp2_with (fail)
      refine HCT.out.mono ?_
      rintro e w2 ⟨rfl, hb2⟩
      have hF2 : Cur w2 w.heap.size s R.2.1 R.2.2 := Box.below hF1 hb2 hgx
      have c2 := hF2.c2
      have HB2 := Lib.hid (HB1.out.trans (hb2.mono HB1.out.size))
      clear hb2 hF1 hF2
      have hr : R.2.2 = true ∨ R.2.2 = false := by cases R.2.2 <;> simp
      rcases hr with hr | hr
      all_goals
        rw [hr] at c2
        go_wp2
        go_ret2
        refine ⟨some ⟨w2.heap.size, 0, none⟩, 0, ?_, ?_, Below.alloc HB2.out HB2.out.size _⟩
        · rw [← HO2.out]; rfl
        · rw [← HO2.out]; exact OwL.empty _ _ HB2.out.size
end Go.Proofs.Ytkdajahiaedoiaa
