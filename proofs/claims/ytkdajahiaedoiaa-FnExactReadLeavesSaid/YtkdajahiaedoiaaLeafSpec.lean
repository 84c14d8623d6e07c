/- Entries: the reference's reader. -/
import Derived.Test.YtkdajahiaedoiaaLeafRead
import Derived.Test.YtkdajahiaedoiaaLeafText
namespace Go.Proofs.Ytkdajahiaedoiaa
open Go.RowKit Pl
set_option linter.unusedVariables false

theorem small_snoc {l : List Lf} {a v : Bs} (h : LfSmall l) (ha : a.length ≤ 20000) (hv : v.length ≤ 20000) : LfSmall (l ++ [(a, v)]) := by
  intro i hi
  simp at hi
  rcases Nat.lt_or_ge i l.length with h1 | h1
  · have := h i h1
    unfold lfAt at this ⊢
    rw [List.getD_eq_getElem?_getD] at this ⊢
    rw [List.getElem?_append_left h1]; exact this
  · obtain rfl : i = l.length := by omega
    unfold lfAt
    rw [List.getD_eq_getElem?_getD, List.getElem?_append_right (by omega)]
    simp; omega
theorem small_nil : LfSmall [] := fun i hi => by simp at hi

set_option maxRecDepth 100000 in
set_option maxHeartbeats 1600000 in
theorem sleaves_any (g : Nat) (s : ByteArray) (p : Nat) (bad : Bool) (w : World) (hs : (s.size : Int) ≤ 1000000000) (hp : p ≤ s.size) (hF : Cur w g s p bad) :
    Calls Try.prog 62 #[.pointer (some ⟨g, 0, none⟩)] w fun e w' => LvPost (fun W q b => Cur W g s q b) g (leavesS s.data.toList p bad) w e w' ∧ LfSmall (leavesS s.data.toList p bad).1 ∧ (leavesS s.data.toList p bad).1.length ≤ 30 := by
  have hg := Box.lt hF
  rcases hN : numS s.data.toList p bad with ⟨n, p1, b1⟩
  have hp1 := (numS_le (t := s.data.toList) (p := p) (bad := bad) (by rw [size_data]; exact hp))
  rw [hN, size_data] at hp1
  obtain ⟨hp1, hn⟩ : p1 ≤ s.size ∧ n ≤ 1000000000 := hp1
  obtain ⟨m, hm⟩ : ∃ m, min n 30 = m := ⟨_, rfl⟩
  have hmn : m ≤ n := by omega
  have hm3 : m ≤ 30 := by omega
  have hmm : n ≤ m ∨ 30 ≤ m := by omega
  obtain ⟨R, hR⟩ : ∃ R, lvLoop (shortS s.data.toList) m p1 b1 = R := ⟨_, rfl⟩
  have hdef : leavesS s.data.toList p bad = R := by
    simp only [leavesS, hN, hm]; exact hR
  rw [hdef]
  have hS := LvAt.start (shortS s.data.toList) m p1 b1
  rw [hR] at hS
  have HS := Lib.hid hS
  clear hS hR hdef hm
  have hF0 : Cur (w.alloc (.cells #[] 47)) g s p bad := Box.alloc hF _
  have hO0 : Only g w (w.alloc (.cells #[] 47)) := (Only.refl g w).alloc _
  have HN := Lib.hid hN
  clear hN
  go_enter Try.func62, Try.ntmps62
  go_wp2_with (fail)
  refine (cvar_eq hs hp HN.out hF0).mono ?_
  rintro e w1 ⟨rfl, hF1, hO1⟩
  have HF1 : Hid (Cur w1 g s p1 b1) := Lib.hid hF1
  have HO1 := Lib.hid (hO0.trans hO1)
  have HR1 := Lib.hid (row_only (row_empty w w.heap.size 47 2 (Nat.le_refl _)) hO1 hg)
  clear hF1 hO1 hO0 hF0
  go_wp2
  go_loopw [3, 5] (fun v i wr => ∃ (k q : Nat) (b : Bool) (l : List Lf), i = .int .i64 (k : Int) ∧ k ≤ m ∧ q ≤ s.size ∧ l.length = k ∧ wr.ownsRow w.heap.size 47 2 v k (lvC l) ∧ Cur wr g s q b ∧ Only g w wr ∧ LfSmall l ∧ Hid (LvAt (shortS s.data.toList) R (m - k) l q b)) (fun _ i _ => m - (intOf i).toNat)
  case atStart => exact ⟨0, p1, b1, [], rfl, by omega, hp1, rfl, HR1.out, HF1.out, HO1.out, small_nil, HS⟩
  case round =>
    obtain ⟨k, q, b, l, rfl, hk, hq, hl, hown, hFr, hOr, hft, HA⟩ := hrel
    subst hl
    obtain ⟨A, c, rfl⟩ := row_form hown
    have c0 := hFr.c0
    have c1 := hFr.c1
    have c2 := hFr.c2
    have hgr := Box.lt hFr
    by_cases hin : l.length < m
    · have hin1 : (l.length : Int) < (n : Int) := by omega
      have hin2 : (l.length : Int) < 30 := by omega
      cases b
      · obtain ⟨j, hj⟩ : ∃ j, m - l.length = j + 1 := ⟨m - l.length - 1, by omega⟩
        rcases h1 : shortS s.data.toList q false with ⟨a, q1, b2⟩
        have hq1 := (shortS_le (t := s.data.toList) (p := q) (bad := false) (by rw [size_data]; exact hq))
        rw [h1, size_data] at hq1
        obtain ⟨hq1, ha⟩ : q1 ≤ s.size ∧ a.length ≤ 20000 := hq1
        rcases h2 : shortS s.data.toList q1 b2 with ⟨v, q2, b3⟩
        have hq2 := (shortS_le (t := s.data.toList) (p := q1) (bad := b2) (by rw [size_data]; exact hq1))
        rw [h2, size_data] at hq2
        obtain ⟨hq2, hv⟩ : q2 ≤ s.size ∧ v.length ≤ 20000 := hq2
        have hA2 : LvAt (shortS s.data.toList) R (m - (l.length + 1)) (l ++ [(a, v)]) q2 b3 := by
          have h3 := HA.out
          rw [hj] at h3
          have h4 := h3.step h1 h2
          rw [show m - (l.length + 1) = j from by omega]
          exact h4
        have HFt := Lib.hid hft
        have HOr := Lib.hid hOr
        have HOwn := Lib.hid hown
        clear hj hft hOr hown
        have H1 := Lib.hid h1
        have H2 := Lib.hid h2
        have HA2 := Lib.hid hA2
        clear h1 h2 hA2
        go_wp2_with (fail)
        refine (cshort_eq hs hq H1.out hFr).mono ?_
        rintro e w2 ⟨rfl, hF2, hO2⟩
        have hX2 := Box.new w2 47 #[.string (bs a), .string ⟨#[]⟩]
        have hF3 : Cur (w2.alloc (.cells #[.string (bs a), .string ⟨#[]⟩] 47)) g s q1 b2 := Box.alloc hF2 _
        have hx : w2.heap.size ≠ g := by have := Box.lt hF2; omega
        go_wp2_with (fail)
        refine (cshort_eq hs hq1 H2.out hF3).mono ?_
        rintro e w3 ⟨rfl, hF4, hO4⟩
        have hX4 := hX2.only hO4 hx
        have hwx : w.heap.size ≤ w2.heap.size := (HOr.out.trans hO2).size
        have hO5 := ((hO2.alloc (.cells #[.string (bs a), .string ⟨#[]⟩] 47)).trans hO4)
        have hX5 := hX4.set 1 (.string (bs v))
        have hF5 : Cur (w3.setCell ⟨w2.heap.size, 1, none⟩ (.string (bs v))) g s q2 b3 := Box.far hF4 (by simpa using hx.symm) _
        have hO6 : Only g wr (w3.setCell ⟨w2.heap.size, 1, none⟩ (.string (bs v))) := hO5.set (.inr (by simpa using hO2.size)) _
        have x1 : w3.cell? ⟨w2.heap.size, 1, none⟩ = some (.string ⟨#[]⟩) := hX4.cell 1
        have x0 : w3.cell? ⟨w2.heap.size, 0, none⟩ = some (.string (bs a)) := hX4.cell 0
        have y1 : w3.frozen? ⟨w2.heap.size, 1, none⟩ = false := Box.free hX4 1
        have hown5 := row_only HOwn.out hO6 hg
        have HSL : Hid (Value.slice (some ⟨w3.heap.size, 0, none⟩) 1 1 = Value.slice (some ⟨(w3.setCell ⟨w2.heap.size, 1, none⟩ (.string (bs v))).heap.size, 0, none⟩) 1 1) := Lib.hid (congrArg (fun z => Value.slice (some ⟨z, 0, none⟩) 1 1) (by simp))
        have HF5 : Hid (Cur (w3.setCell ⟨w2.heap.size, 1, none⟩ (.string (bs v))) g s q2 b3) := Lib.hid hF5
        have HO6 := Lib.hid (HOr.out.trans hO6)
        have hwb : w.heap.size ≤ (w3.setCell ⟨w2.heap.size, 1, none⟩ (.string (bs v))).heap.size := HO6.out.size
        clear hF5 hO6 hO5 hX5 hX4 hF4 hO4 hF3 hX2 hF2 hO2
        go_wp2_with (at_builtin; go_must (refine wp_app_row _ _ _ 2 32 Try.underlying33 leaf_info rfl (by omega) rfl _ _ rfl (w3.setCell ⟨w2.heap.size, 1, none⟩ (.string (bs v))) w.heap.size _ l.length (lvC l) (lvC [(a, v)]) hown5 _ (lvC_one a v).symm rfl 1 1 rfl (by simp [lvC, Value.oneCell']) ?_ (by omega) (by omega) hwb ?_; exact HSL.out; intro v4 w4 hown4 hb4))
        go_roundw
        case rel =>
          refine ⟨l.length + 1, q2, b3, l ++ [(a, v)], by go_num, by omega, hq2, by simp, ?_, Box.below HF5.out hb4 hg, only_then HO6.out hb4, small_snoc HFt.out ha hv, HA2⟩
          rw [lvC_append]; exact hown4
        case measure => simp [intOf]; omega
      · have hRd := HA.out.bad
        have HRd := Lib.hid hRd
        have HFr := Lib.hid hFr
        have HOr := Lib.hid hOr
        have HOwn := Lib.hid hown
        have HFt := Lib.hid hft
        clear hRd hFr hOr hft hown
        go_wp2_with (fail)
        all_goals
          go_ret
          refine ⟨⟨A, c, by first | (rw [HRd.out]; done) | (rw [HRd.out]; rfl), ?_, ?_, ?_⟩, ?_, ?_⟩
          · rw [HRd.out]
            exact ⟨rfl, HOwn.out⟩
          · rw [HRd.out]
            exact HFr.out
          · exact HOr.out
          · rw [HRd.out]; exact HFt.out
          · rw [HRd.out]; simp only; omega
    · obtain rfl : l.length = m := by omega
      have hE := HA.out
      rw [Nat.sub_self] at hE
      have hRd := hE.done
      have HRd := Lib.hid hRd
      have HFr := Lib.hid hFr
      have HOr := Lib.hid hOr
      have HOwn := Lib.hid hown
      have HFt := Lib.hid hft
      clear hE hRd hFr hOr hft hown
      have hlong : l.length < n → 30 ≤ l.length := by omega
      by_cases hin1 : l.length < n
      · have := hlong hin1
        go_wp2_with (fail)
        all_goals
          go_ret
          refine ⟨⟨A, c, by first | (rw [HRd.out]; done) | (rw [HRd.out]; rfl), ?_, ?_, ?_⟩, ?_, ?_⟩
          · rw [HRd.out]
            exact ⟨rfl, HOwn.out⟩
          · rw [HRd.out]
            exact HFr.out
          · exact HOr.out
          · rw [HRd.out]; exact HFt.out
          · rw [HRd.out]; simp only; omega
      · go_wp2_with (fail)
        all_goals
          go_ret
          refine ⟨⟨A, c, by first | (rw [HRd.out]; done) | (rw [HRd.out]; rfl), ?_, ?_, ?_⟩, ?_, ?_⟩
          · rw [HRd.out]
            exact ⟨rfl, HOwn.out⟩
          · rw [HRd.out]
            exact HFr.out
          · exact HOr.out
          · rw [HRd.out]; exact HFt.out
          · rw [HRd.out]; simp only; omega
end Go.Proofs.Ytkdajahiaedoiaa
