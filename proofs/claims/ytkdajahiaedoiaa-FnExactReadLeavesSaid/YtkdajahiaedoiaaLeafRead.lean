/- Entries: the readers of both sides. -/
import Derived.Test.YtkdajahiaedoiaaLeavesOk
import Derived.Test.YtkdajahiaedoiaaApp
import Derived.Test.YtkdajahiaedoiaaFields
import Derived.Test.YtkdajahiaedoiaaSpecCur
namespace Go.Proofs.Ytkdajahiaedoiaa
open Go.RowKit Pl
set_option linter.unusedVariables false

theorem leaf_info : (Try.prog.info? 47).map (fun i => (i.zero, i.size, i.bytes)) = some (some (.agg #[.string ⟨#[]⟩, .string ⟨#[]⟩]), 2, 32) := by kernel_rfl
/-- What a reader of entries leaves: a slice of its own, the reader's block, nothing else turned. -/
def LvPost (F : World → Nat → Bool → Prop) (g : Nat) (R : List Lf × Nat × Bool) (w : World) (e : Ending) (w' : World) : Prop :=
  ∃ A c, e = .returned (.slice A R.1.length c) ∧ OwL w' w.heap.size (.slice A R.1.length c) R.1.length R.1 ∧ F w' R.2.1 R.2.2 ∧ Only g w w'
theorem fits_snoc {l : List Lf} {a v : Bs} (h : LfFits l) (ha : a.length ≤ 20000) (hv : v.length ≤ 20000) : LfFits (l ++ [(a, v)]) := by
  intro i hi
  simp at hi
  rcases Nat.lt_or_ge i l.length with h1 | h1
  · have := h i h1
    unfold lfAt at this ⊢
    rw [List.getD_eq_getElem?_getD] at this ⊢
    rw [List.getElem?_append_left h1]; exact this
  · obtain rfl : i = l.length := by omega
    unfold lfAt
    rw [List.getD_eq_getElem?_getD, List.getElem?_append_right (by omega)]
    simp; omega
theorem row_form {w : World} {base : Nat} {e : TypeId} {size : Nat} {v : Value} {n : Nat} {xs : List Value} (h : w.ownsRow base e size v n xs) : ∃ A c, v = .slice A n c := by
  rcases h.2 with ⟨rfl, rfl⟩ | ⟨g, cap, cur, rfl, _⟩
  · exact ⟨none, 0, rfl⟩
  · exact ⟨_, _, rfl⟩
theorem only_then {g : Nat} {w w' w2 : World} (h : Only g w w') (k : Below w.heap.size w' w2) : Only g w w2 :=
  ⟨k.os.trans h.os, k.tape.trans h.tape, k.output.trans h.output, Nat.le_trans h.size k.size, fun i hi hn => (k.block i hi).trans (h.block i hi hn)⟩
theorem lvC_one (a b : Bs) : lvC [(a, b)] = [.string (bs a), .string (bs b)] := rfl
theorem fits_nil : LfFits [] := fun i hi => by simp at hi

set_option maxRecDepth 100000 in
set_option maxHeartbeats 1600000 in
theorem fleaves_any (g : Nat) (s : ByteArray) (p : Nat) (bad : Bool) (w : World) (hs : (s.size : Int) ≤ 1000000000) (hp : p ≤ s.size) (hF : Fld w g s p bad) :
    Calls Try.prog 64 #[.pointer (some ⟨g, 0, none⟩)] w (LvPost (fun W q b => Fld W g s q b) g (leavesI s.data.toList p bad) w) := by
  have hg := Box.lt hF
  rcases hN : numOf s.data.toList p bad with ⟨n, p1, b1⟩
  have hp1 := (numOf_le (t := s.data.toList) (p := p) (bad := bad) (by rw [size_data]; exact hp))
  rw [hN, size_data] at hp1
  obtain ⟨hp1, hn⟩ : p1 ≤ s.size ∧ n ≤ 1000000000 := hp1
  obtain ⟨R, hR⟩ : ∃ R, lvLoop (shortOf s.data.toList) n p1 (if 24 < n then true else b1) = R := ⟨_, rfl⟩
  have hdef : leavesI s.data.toList p bad = (R.1, R.2.1, R.2.2 || !leavesOk R.1) := by
    simp only [leavesI, hN]; rw [hR]
  rw [hdef]
  have HN := Lib.hid hN
  have HD := Lib.hid hdef
  clear hN hdef
  go_enter Try.func64, Try.ntmps64
  go_wp2_with (fail)
  refine (fnum_eq hs hp HN.out hF).mono ?_
  rintro e w1 ⟨rfl, hF1, hO1⟩
  have d0 := hF1.c0
  have d1 := hF1.c1
  have d2 := hF1.c2
  have f2 : w1.frozen? ⟨g, 2, none⟩ = false := Box.free hF1 2
  by_cases h24 : 24 < (n : Int)
  · rw [if_pos (by omega)] at hR
    have hS := LvAt.start (shortOf s.data.toList) n p1 true
    rw [hR] at hS
    have hRb := hS.bad
    have HRB := Lib.hid hRb
    have HF1 := Lib.hid hF1
    have HO1 := Lib.hid hO1
    clear hF1 hO1 hRb hS hR
    have n0 : (0 : Int) < (n : Int) := by omega
    have n1 : decide (24 < n) = true := by simp; omega
    go_wp2
    go_loop [4, 5] (fun v i => v = .slice none 0 0 ∧ i = .int .i64 0) (fun _ _ => 0)
    case atStart => exact ⟨rfl, rfl⟩
    case round =>
      obtain ⟨rfl, rfl⟩ := hrel
      go_wp2
      go_ret
      refine ⟨none, 0, by rw [HRB.out]; rfl, by rw [HRB.out]; exact ⟨rfl, row_nil _ _ _ _⟩, ?_, ?_⟩
      · rw [HRB.out]
        exact ((HF1.out.set 2 (.bool true)).set 2 (.bool true))
      · exact ((HO1.out.set (.inl rfl) _).set (.inl rfl) _)
  · rw [if_neg (by omega)] at hR
    have hS := LvAt.start (shortOf s.data.toList) n p1 b1
    rw [hR] at hS
    have HS := Lib.hid hS
    clear hS hR
    have HF1 := Lib.hid hF1
    have HO1 := Lib.hid hO1
    clear hF1 hO1
    go_wp2
    go_loopw [4, 5] (fun v i wr => ∃ (k q : Nat) (b : Bool) (l : List Lf), i = .int .i64 (k : Int) ∧ k ≤ n ∧ q ≤ s.size ∧ l.length = k ∧ wr.ownsRow w.heap.size 47 2 v k (lvC l) ∧ Fld wr g s q b ∧ Only g w wr ∧ LfFits l ∧ Hid (LvAt (shortOf s.data.toList) R (n - k) l q b)) (fun _ i _ => n - (intOf i).toNat)
    case atStart => exact ⟨0, p1, b1, [], rfl, by omega, hp1, rfl, row_nil _ _ _ _, HF1.out, HO1.out, fits_nil, HS⟩
    case round =>
      obtain ⟨k, q, b, l, rfl, hk, hq, hl, hown, hFr, hOr, hft, HA⟩ := hrel
      subst hl
      obtain ⟨A, c, rfl⟩ := row_form hown
      have c0 := hFr.c0
      have c1 := hFr.c1
      have c2 := hFr.c2
      have g2 : wr.frozen? ⟨g, 2, none⟩ = false := Box.free hFr 2
      have hgr := Box.lt hFr
      cases b
      · by_cases hin : (l.length : Int) < (n : Int)
        · obtain ⟨m, hm⟩ : ∃ m, n - l.length = m + 1 := ⟨n - l.length - 1, by omega⟩
          rcases h1 : shortOf s.data.toList q false with ⟨a, q1, b2⟩
          have hq1 := (shortOf_le (t := s.data.toList) (p := q) (bad := false) (by rw [size_data]; exact hq))
          rw [h1, size_data] at hq1
          obtain ⟨hq1, ha⟩ : q1 ≤ s.size ∧ a.length ≤ 20000 := hq1
          rcases h2 : shortOf s.data.toList q1 b2 with ⟨v, q2, b3⟩
          have hq2 := (shortOf_le (t := s.data.toList) (p := q1) (bad := b2) (by rw [size_data]; exact hq1))
          rw [h2, size_data] at hq2
          obtain ⟨hq2, hv⟩ : q2 ≤ s.size ∧ v.length ≤ 20000 := hq2
          have hA2 : LvAt (shortOf s.data.toList) R (n - (l.length + 1)) (l ++ [(a, v)]) q2 b3 := by
            have h3 := HA.out
            rw [hm] at h3
            have h4 := h3.step h1 h2
            rw [show n - (l.length + 1) = m from by omega]
            exact h4
          have HFt := Lib.hid hft
          have HOr := Lib.hid hOr
          have HOwn := Lib.hid hown
          clear hm hft hOr hown
          have H1 := Lib.hid h1
          have H2 := Lib.hid h2
          have HA2 := Lib.hid hA2
          clear h1 h2 hA2
          go_wp2_with (fail)
          refine (fshort_eq hs hq H1.out hFr).mono ?_
          rintro e w2 ⟨rfl, hF2, hO2⟩
          go_wp2_with (fail)
          refine (fshort_eq hs hq1 H2.out hF2).mono ?_
          rintro e w3 ⟨rfl, hF3, hO3⟩
          have hO3' := hO2.trans hO3
          have hown3 := row_only HOwn.out hO3' hg
          have HF3 := Lib.hid hF3
          have HO3 := Lib.hid (HOr.out.trans hO3')
          have hwb : w.heap.size ≤ w3.heap.size := HO3.out.size
          clear hF3 hO3 hO3' hF2 hO2
          go_wp2_with (at_builtin; go_must (refine wp_app_row _ _ _ 2 32 Try.underlying33 leaf_info rfl (by omega) rfl _ _ rfl w3 w.heap.size _ l.length (lvC l) (lvC [(a, v)]) hown3 _ (lvC_one a v).symm rfl 1 1 rfl (by simp [lvC, Value.oneCell']) rfl (by omega) (by omega) hwb ?_; intro v4 w4 hown4 hb4))
          have hb4' := hb4
          go_roundw
          case rel =>
            refine ⟨l.length + 1, q2, b3, l ++ [(a, v)], by go_num, by omega, hq2, by simp, ?_, HF3.out.below hb4 hg, only_then HO3.out hb4, fits_snoc HFt.out ha hv, HA2⟩
            rw [lvC_append]; exact hown4
          case measure => simp [intOf]; omega
        · obtain rfl : l.length = n := by omega
          have hE := HA.out
          rw [Nat.sub_self] at hE
          have hRd := hE.done
          have HRd := Lib.hid hRd
          have hLv : OwL wr w.heap.size (.slice A l.length c) l.length l := ⟨rfl, hown⟩
          have HFr := Lib.hid hFr
          have HOr := Lib.hid hOr
          have HFt := Lib.hid hft
          have HLv := Lib.hid hLv
          clear hE hRd hLv hFr hOr hft hown
          go_wp2_with (fail)
          refine (leavesOk_any A l.length c l wr (by omega) HLv.out.rd HFt.out).mono ?_
          rintro e w5 ⟨rfl, hb5⟩
          have HF5 : Hid (Fld w5 g s q false) := Lib.hid (Box.below HFr.out hb5 hgr)
          have HO5 := Lib.hid (HOr.out.trans (Only.of_below hb5 g))
          have HL5 := Lib.hid (HLv.out.below hb5)
          have e2 := Fld.c2 HF5.out
          have k2 : w5.frozen? ⟨g, 2, none⟩ = false := Box.free HF5.out 2
          clear hb5
          obtain ⟨ok, hok⟩ : ∃ ok, leavesOk l = ok := ⟨_, rfl⟩
          rw [hok]
          have HOK := Lib.hid hok
          clear hok
          go_wp2
          go_ret
          refine ⟨A, c, by first | (rw [HRd.out]; done) | (rw [HRd.out]; rfl), ?_, ?_, ?_⟩
          · rw [HRd.out]
            exact ⟨rfl, row_only HL5.out.2 ((Only.refl g w5).set (.inl rfl) _) hg⟩
          · rw [HRd.out]
            simp only [HOK.out, Bool.false_or]
            exact (Box.set HF5.out 2 (.bool (!ok)))
          · exact HO5.out.set (.inl rfl) _
      · have hRd := HA.out.bad
        have HRd := Lib.hid hRd
        have HFr := Lib.hid hFr
        have HOr := Lib.hid hOr
        have HOwn := Lib.hid hown
        clear hRd hFr hOr hft hown
        go_wp2_with (fail)
        all_goals
          go_ret
          refine ⟨A, c, by first | (rw [HRd.out]; done) | (rw [HRd.out]; rfl), ?_, ?_, ?_⟩
          · rw [HRd.out]
            exact ⟨rfl, row_only HOwn.out ((Only.refl g wr).set (.inl rfl) _) hg⟩
          · rw [HRd.out]
            exact (Box.set HFr.out 2 (.bool true))
          · exact HOr.out.set (.inl rfl) _
end Go.Proofs.Ytkdajahiaedoiaa
