/- Letters: the reference ReadLetter. -/
import Derived.Test.YtkdajahiaedoiaaLetter2
namespace Go.Proofs.Ytkdajahiaedoiaa
open Go.RowKit Pl
set_option linter.unusedVariables false

set_option maxRecDepth 100000 in
set_option maxHeartbeats 1600000 in
theorem sReadLetter_any (s : ByteArray) (w : World) (hs : (s.size : Int) ≤ 1000000000) :
    Calls Try.prog 13 #[.string s] w fun e w' => e = .returned (rlVal (readLetterS s.data.toList (us2 s.data.toList).1 (us2 s.data.toList).2)) ∧ Below w.heap.size w w' := by
  have hc := fun W => sUnsealed_any s W hs
  rw [us2_val] at hc
  have hl := us2_len s.data.toList
  rcases hU : us2 s.data.toList with ⟨l, ok⟩
  rw [hU] at hc hl
  have hl' : l.length ≤ 20000 := hl
  have hz : ((bs l).size : Int) ≤ 1000000000 := by rw [bs_size]; omega
  rcases hK : oneOf l 0 (!ok) with ⟨k, p1, b1⟩
  have hp1 := (oneOf_le (t := l) (p := 0) (b := (!ok)) (by omega))
  rw [hK] at hp1
  obtain ⟨hp1, hv1⟩ : p1 ≤ l.length ∧ k ≤ 255 := hp1
  have q1 : p1 ≤ (bs l).size := by rw [bs_size]; exact hp1
  rcases hF : oneOf l p1 b1 with ⟨f, p2, b2⟩
  have hp2 := (oneOf_le (t := l) (p := p1) (b := b1) (by omega))
  rw [hF] at hp2
  obtain ⟨hp2, hv2⟩ : p2 ≤ l.length ∧ f ≤ 255 := hp2
  have q2 : p2 ≤ (bs l).size := by rw [bs_size]; exact hp2
  rcases hT : oneOf l p2 b2 with ⟨t, p3, b3⟩
  have hp3 := (oneOf_le (t := l) (p := p2) (b := b2) (by omega))
  rw [hT] at hp3
  obtain ⟨hp3, hv3⟩ : p3 ≤ l.length ∧ t ≤ 255 := hp3
  have q3 : p3 ≤ (bs l).size := by rw [bs_size]; exact hp3
  rcases hE : oneOf l p3 b3 with ⟨e, p4, b4⟩
  have hp4 := (oneOf_le (t := l) (p := p3) (b := b3) (by omega))
  rw [hE] at hp4
  obtain ⟨hp4, hv4⟩ : p4 ≤ l.length ∧ e ≤ 255 := hp4
  have q4 : p4 ≤ (bs l).size := by rw [bs_size]; exact hp4
  rcases hY : numS l p4 b4 with ⟨y, p5, b5⟩
  have hp5 := (numS_le (t := l) (p := p4) (bad := b4) hp4)
  rw [hY] at hp5
  obtain ⟨hp5, hv5⟩ : p5 ≤ l.length ∧ y ≤ 1000000000 := hp5
  have q5 : (p5 : Int) ≤ ((bs l).size : Int) := by rw [bs_size]; omega
  have hext := ext_drop l p5
  have hdef : readLetterS s.data.toList l ok = if b5 = false ∧ letterOk k f t e y (l.drop p5) = true ∧ letterText k f t e y (l.drop p5) = s.data.toList then some (k, f, t, e, y, l.drop p5) else none := by
    simp only [readLetterS, hK, hF, hT, hE, hY]
  rw [← bs_data l] at hK hF hT hE hY
  have HK := Lib.hid hK
  have HFF := Lib.hid hF
  have HT := Lib.hid hT
  have HE := Lib.hid hE
  have HY := Lib.hid hY
  have HD := Lib.hid hdef
  have HC := Lib.hid hc
  have HU := Lib.hid hU
  have HL := Lib.hid hl
  clear hK hF hT hE hY hdef hc hU hl
  go_enter Try.func13, Try.ntmps13
  go_wp2_with (fail)
  refine (HC.out _).mono ?_
  rintro e' w1 ⟨rfl, hb1⟩
  have hR1 := (Box.new w 29 #[.int .i64 0, .int .i64 0, .int .i64 0, .int .i64 0, .int .i64 0, .string ⟨#[]⟩]).below hb1 (by simp)
  have hB1 : Below w.heap.size w w1 := ((Below.refl _ w).alloc (Nat.le_refl _) _).trans (hb1.mono (by simp))
  have hz1 : w.heap.size < w1.heap.size := hR1.lt
  go_wp2_with (fail)
  refine (cbyte_eq hz (by omega) HK.out (Cur.new rfl)).mono ?_
  rintro e' w2 ⟨rfl, hF2, hO2⟩
  have hR2 := (hR1.alloc (.cells #[.string (bs l), .int .i64 0, .bool (!ok)] 73)).only hO2 (by omega)
  have hB2 : Below w.heap.size w w2 := (hB1.alloc (by omega) _).trans (hO2.below (by omega) (by simp; omega))
  have hz2 : w1.heap.size < w2.heap.size := Box.lt hF2
  have hz2' : w.heap.size < w2.heap.size := by omega
  go_wp2_with (fail)
  refine (cbyte_eq hz q1 HFF.out (hF2.alloc _)).mono ?_
  rintro e' w3 ⟨rfl, hF3, hO3⟩
  have hX3 := (Box.new w2 29 #[.int .i64 (k : Int), .int .i64 0, .int .i64 0, .int .i64 0, .int .i64 0, .string ⟨#[]⟩]).only hO3 (by omega)
  have hR3 := (hR2.alloc (.cells #[.int .i64 (k : Int), .int .i64 0, .int .i64 0, .int .i64 0, .int .i64 0, .string ⟨#[]⟩] 29)).only hO3 (by omega)
  have hB3 : Below w.heap.size w w3 := (hB2.alloc (by omega) _).trans (hO3.below (by omega) (by simp; omega))
  have hz3 : w2.heap.size < w3.heap.size := hX3.lt
  have x31 : w3.cell? ⟨w2.heap.size, 1, none⟩ = some (.int .i64 0) := hX3.cell 1
  have y31 := hX3.free 1
  go_wp2_with (fail)
  refine (cbyte_eq hz q2 HT.out (hF3.far (p := ⟨w2.heap.size, 1, none⟩) (by simp; omega) _)).mono ?_
  rintro e' w4 ⟨rfl, hF4, hO4⟩
  have hX4 := (hX3.set 1 (.int .i64 (f : Int))).only hO4 (by omega)
  have hR4 := (hR3.far (p := ⟨w2.heap.size, 1, none⟩) (by simp; omega) (.int .i64 (f : Int))).only hO4 (by omega)
  have hB4 : Below w.heap.size w w4 := (hB3.setCell (p := ⟨w2.heap.size, 1, none⟩) (by simp; omega) (.int .i64 (f : Int))).trans (hO4.below (by omega) (by simp [World.setCell]; omega))
  have hz4 : w2.heap.size < w4.heap.size := hX4.lt
  have x42 : w4.cell? ⟨w2.heap.size, 2, none⟩ = some (.int .i64 0) := hX4.cell 2
  have y42 := hX4.free 2
  clear x31 y31
  go_wp2_with (fail)
  refine (cbyte_eq hz q3 HE.out (hF4.far (p := ⟨w2.heap.size, 2, none⟩) (by simp; omega) _)).mono ?_
  rintro e' w5 ⟨rfl, hF5, hO5⟩
  have hX5 := (hX4.set 2 (.int .i64 (t : Int))).only hO5 (by omega)
  have hR5 := (hR4.far (p := ⟨w2.heap.size, 2, none⟩) (by simp; omega) (.int .i64 (t : Int))).only hO5 (by omega)
  have hB5 : Below w.heap.size w w5 := (hB4.setCell (p := ⟨w2.heap.size, 2, none⟩) (by simp; omega) (.int .i64 (t : Int))).trans (hO5.below (by omega) (by simp [World.setCell]; omega))
  have hz5 : w2.heap.size < w5.heap.size := hX5.lt
  have x53 : w5.cell? ⟨w2.heap.size, 3, none⟩ = some (.int .i64 0) := hX5.cell 3
  have y53 := hX5.free 3
  clear x42 y42
  go_wp2_with (fail)
  refine (cvar_eq hz q4 HY.out (hF5.far (p := ⟨w2.heap.size, 3, none⟩) (by simp; omega) _)).mono ?_
  rintro e' w6 ⟨rfl, hF6, hO6⟩
  have hX6 := (hX5.set 3 (.int .i64 (e : Int))).only hO6 (by omega)
  have hR6 := (hR5.far (p := ⟨w2.heap.size, 3, none⟩) (by simp; omega) (.int .i64 (e : Int))).only hO6 (by omega)
  have hB6 : Below w.heap.size w w6 := (hB5.setCell (p := ⟨w2.heap.size, 3, none⟩) (by simp; omega) (.int .i64 (e : Int))).trans (hO6.below (by omega) (by simp [World.setCell]; omega))
  have hz6 : w2.heap.size < w6.heap.size := hX6.lt
  have x64 : w6.cell? ⟨w2.heap.size, 4, none⟩ = some (.int .i64 0) := hX6.cell 4
  have y64 := hX6.free 4
  clear x53 y53
  have hX7 := hX6.set 4 (.int .i64 (y : Int))
  have hR7 := hR6.far (p := ⟨w2.heap.size, 4, none⟩) (by simp; omega) (.int .i64 (y : Int))
  have hB7 : Below w.heap.size w _ := hB6.setCell (p := ⟨w2.heap.size, 4, none⟩) (by simp; omega) (.int .i64 (y : Int))
  have hC7 := hF6.far (p := ⟨w2.heap.size, 4, none⟩) (by simp; omega) (.int .i64 (y : Int))
  obtain ⟨w7, hw7⟩ : ∃ W, w6.setCell ⟨w2.heap.size, 4, none⟩ (.int .i64 (y : Int)) = W := ⟨_, rfl⟩
  rw [hw7] at hX7 hR7 hB7 hC7
  have hz7 : w2.heap.size < w7.heap.size := hX7.lt
  have d1 : w7.cell? ⟨w1.heap.size, 1, none⟩ = some (.int .i64 (p5 : Int)) := hC7.cell 1
  have d2 : w7.cell? ⟨w1.heap.size, 2, none⟩ = some (.bool b5) := hC7.cell 2
  cases b5
  · have hX8 := hX7.set 5 (.string (bs (l.drop p5)))
    have hR8 := hR7.far (p := ⟨w2.heap.size, 5, none⟩) (by simp; omega) (.string (bs (l.drop p5)))
    have hB8 : Below w.heap.size w _ := hB7.setCell (p := ⟨w2.heap.size, 5, none⟩) (by simp; omega) (.string (bs (l.drop p5)))
    obtain ⟨w8, hw8⟩ : ∃ W, w7.setCell ⟨w2.heap.size, 5, none⟩ (.string (bs (l.drop p5))) = W := ⟨_, rfl⟩
    rw [hw8] at hX8 hR8 hB8
    have v5 : w7.cell? ⟨w2.heap.size, 5, none⟩ = some (.string ⟨#[]⟩) := hX7.cell 5
    have vf5 := hX7.free 5
    have x0 : w8.cell? ⟨w2.heap.size, 0, none⟩ = some (.int .i64 (k : Int)) := hX8.cell 0
    have x1 : w8.cell? ⟨w2.heap.size, 1, none⟩ = some (.int .i64 (f : Int)) := hX8.cell 1
    have x2 : w8.cell? ⟨w2.heap.size, 2, none⟩ = some (.int .i64 (t : Int)) := hX8.cell 2
    have x3 : w8.cell? ⟨w2.heap.size, 3, none⟩ = some (.int .i64 (e : Int)) := hX8.cell 3
    have x4 : w8.cell? ⟨w2.heap.size, 4, none⟩ = some (.int .i64 (y : Int)) := hX8.cell 4
    have x5 : w8.cell? ⟨w2.heap.size, 5, none⟩ = some (.string (bs (l.drop p5))) := hX8.cell 5
    have hd0 : w7.cell? ⟨w1.heap.size, 0, none⟩ = some (.string (bs l)) := hC7.cell 0
    cases ho : letterOk k f t e y (l.drop p5)
    · have hfin : readLetterS s.data.toList l ok = none := by rw [HD.out, if_neg (by rw [ho]; simp)]
      have htx := fun W => sLetterText_no (k : Int) (f : Int) (t : Int) (e : Int) (y : Int) (bs (l.drop p5)) W (by rw [bs_data]; exact ho)
      have HF := Lib.hid hfin
      have HO := Lib.hid ho
      have HTX := Lib.hid htx
      clear hfin ho htx
      go_wp2_with (fail)
      refine (HTX.out _).mono ?_
      rintro e' w9 ⟨rfl, hb9⟩
      have hR9 := hR8.below hb9 (by have := hX8.lt; omega)
      have hB9 := hB8.trans (hb9.mono hB8.size)
      have HR9 := Lib.hid hR9
      clear hb9 hR9 hX8 hR8 hX7 hR7 v5 vf5 hw7 hw8 d1 d2 hd0 x0 x1 x2 x3 x4 x5
      have s0 : w9.cell? ⟨w.heap.size, 0, none⟩ = some (.int .i64 0) := HR9.out.cell 0
      have sf0 := HR9.out.free 0
      have s1 : w9.cell? ⟨w.heap.size, 1, none⟩ = some (.int .i64 0) := HR9.out.cell 1
      have sf1 := HR9.out.free 1
      have s2 : w9.cell? ⟨w.heap.size, 2, none⟩ = some (.int .i64 0) := HR9.out.cell 2
      have sf2 := HR9.out.free 2
      have s3 : w9.cell? ⟨w.heap.size, 3, none⟩ = some (.int .i64 0) := HR9.out.cell 3
      have sf3 := HR9.out.free 3
      have s4 : w9.cell? ⟨w.heap.size, 4, none⟩ = some (.int .i64 0) := HR9.out.cell 4
      have sf4 := HR9.out.free 4
      have s5 : w9.cell? ⟨w.heap.size, 5, none⟩ = some (.string ⟨#[]⟩) := HR9.out.cell 5
      have sf5 := HR9.out.free 5
      go_wp2
      refine bodyPost_ret (v := .tuple #[.agg #[.int .i64 0, .int .i64 0, .int .i64 0, .int .i64 0, .int .i64 0, .string ⟨#[]⟩], .bool false]) ?_ rfl ⟨by rw [HF.out]; rfl, ?_⟩
      · simp [results, Try.results13, go_sem, s0, s1, s2, s3, s4, s5]
      · repeat' (first | (with_reducible exact Below.refl _ _) | (with_reducible assumption) | (with_reducible refine Below.alloc ?_ ?_ _) | (with_reducible refine Below.drew ?_) | (with_reducible refine below_drewN ?_ _) | (with_reducible refine Below.setCell ?_ ?_ _) | (with_reducible exact Nat.le_refl _) | omega | (simp; omega))
    · have htx := fun W => sLetterText_yes k f t e y (bs (l.drop p5)) W (by rw [bs_data]; exact ho)
      simp only [bs_data] at htx
      by_cases heq : letterText k f t e y (l.drop p5) = s.data.toList
      · have hfin : readLetterS s.data.toList l ok = some (k, f, t, e, y, l.drop p5) := by rw [HD.out, if_pos ⟨rfl, ho, heq⟩]
        have he : ((bs (letterText k f t e y (l.drop p5))).toList == s.toList) = true := by rw [toList_data, toList_data, bs_data, beq_iff_eq]; exact heq
        have HF := Lib.hid hfin
        have HO := Lib.hid ho
        have HTX := Lib.hid htx
        have HQ := Lib.hid heq
        clear hfin ho htx heq
        go_wp2_with (fail)
        refine (HTX.out _).mono ?_
        rintro e' w9 ⟨rfl, hb9⟩
        have hR9 := hR8.below hb9 (by have := hX8.lt; omega)
        have hX9 := hX8.below hb9 hX8.lt
        have hB9 := hB8.trans (hb9.mono hB8.size)
        have HR9 := Lib.hid hR9
        have HX9 := Lib.hid hX9
        clear hb9 hR9 hX8 hR8 hX7 hR7 hX9 v5 vf5 hw7 hw8 d1 d2 hd0 x0 x1 x2 x3 x4 x5
        have s0 : w9.cell? ⟨w.heap.size, 0, none⟩ = some (.int .i64 0) := HR9.out.cell 0
        have sf0 := HR9.out.free 0
        have s1 : w9.cell? ⟨w.heap.size, 1, none⟩ = some (.int .i64 0) := HR9.out.cell 1
        have sf1 := HR9.out.free 1
        have s2 : w9.cell? ⟨w.heap.size, 2, none⟩ = some (.int .i64 0) := HR9.out.cell 2
        have sf2 := HR9.out.free 2
        have s3 : w9.cell? ⟨w.heap.size, 3, none⟩ = some (.int .i64 0) := HR9.out.cell 3
        have sf3 := HR9.out.free 3
        have s4 : w9.cell? ⟨w.heap.size, 4, none⟩ = some (.int .i64 0) := HR9.out.cell 4
        have sf4 := HR9.out.free 4
        have s5 : w9.cell? ⟨w.heap.size, 5, none⟩ = some (.string ⟨#[]⟩) := HR9.out.cell 5
        have sf5 := HR9.out.free 5
        have x0 : w9.cell? ⟨w2.heap.size, 0, none⟩ = some (.int .i64 (k : Int)) := HX9.out.cell 0
        have x1 : w9.cell? ⟨w2.heap.size, 1, none⟩ = some (.int .i64 (f : Int)) := HX9.out.cell 1
        have x2 : w9.cell? ⟨w2.heap.size, 2, none⟩ = some (.int .i64 (t : Int)) := HX9.out.cell 2
        have x3 : w9.cell? ⟨w2.heap.size, 3, none⟩ = some (.int .i64 (e : Int)) := HX9.out.cell 3
        have x4 : w9.cell? ⟨w2.heap.size, 4, none⟩ = some (.int .i64 (y : Int)) := HX9.out.cell 4
        have x5 : w9.cell? ⟨w2.heap.size, 5, none⟩ = some (.string (bs (l.drop p5))) := HX9.out.cell 5
        go_wp2
        refine bodyPost_ret (v := .tuple #[.agg #[.int .i64 (k : Int), .int .i64 (f : Int), .int .i64 (t : Int), .int .i64 (e : Int), .int .i64 (y : Int), .string (bs (l.drop p5))], .bool true]) ?_ rfl ⟨by rw [HF.out]; rfl, ?_⟩
        · simp [results, Try.results13, go_sem, s0, s1, s2, s3, s4, s5]
        · repeat' (first | (with_reducible exact Below.refl _ _) | (with_reducible assumption) | (with_reducible refine Below.alloc ?_ ?_ _) | (with_reducible refine Below.drew ?_) | (with_reducible refine below_drewN ?_ _) | (with_reducible refine Below.setCell ?_ ?_ _) | (with_reducible exact Nat.le_refl _) | omega | (simp; omega))
      · have hfin : readLetterS s.data.toList l ok = none := by rw [HD.out, if_neg (by rintro ⟨_, _, h⟩; exact heq h)]
        have he : ((bs (letterText k f t e y (l.drop p5))).toList == s.toList) = false := by rw [toList_data, toList_data, bs_data, beq_eq_false_iff_ne]; exact heq
        have HF := Lib.hid hfin
        have HO := Lib.hid ho
        have HTX := Lib.hid htx
        have HQ := Lib.hid heq
        clear hfin ho htx heq
        go_wp2_with (fail)
        refine (HTX.out _).mono ?_
        rintro e' w9 ⟨rfl, hb9⟩
        have hR9 := hR8.below hb9 (by have := hX8.lt; omega)
        have hB9 := hB8.trans (hb9.mono hB8.size)
        have HR9 := Lib.hid hR9
        clear hb9 hR9 hX8 hR8 hX7 hR7 v5 vf5 hw7 hw8 d1 d2 hd0 x0 x1 x2 x3 x4 x5
        have s0 : w9.cell? ⟨w.heap.size, 0, none⟩ = some (.int .i64 0) := HR9.out.cell 0
        have sf0 := HR9.out.free 0
        have s1 : w9.cell? ⟨w.heap.size, 1, none⟩ = some (.int .i64 0) := HR9.out.cell 1
        have sf1 := HR9.out.free 1
        have s2 : w9.cell? ⟨w.heap.size, 2, none⟩ = some (.int .i64 0) := HR9.out.cell 2
        have sf2 := HR9.out.free 2
        have s3 : w9.cell? ⟨w.heap.size, 3, none⟩ = some (.int .i64 0) := HR9.out.cell 3
        have sf3 := HR9.out.free 3
        have s4 : w9.cell? ⟨w.heap.size, 4, none⟩ = some (.int .i64 0) := HR9.out.cell 4
        have sf4 := HR9.out.free 4
        have s5 : w9.cell? ⟨w.heap.size, 5, none⟩ = some (.string ⟨#[]⟩) := HR9.out.cell 5
        have sf5 := HR9.out.free 5
        go_wp2
        refine bodyPost_ret (v := .tuple #[.agg #[.int .i64 0, .int .i64 0, .int .i64 0, .int .i64 0, .int .i64 0, .string ⟨#[]⟩], .bool false]) ?_ rfl ⟨by rw [HF.out]; rfl, ?_⟩
        · simp [results, Try.results13, go_sem, s0, s1, s2, s3, s4, s5]
        · repeat' (first | (with_reducible exact Below.refl _ _) | (with_reducible assumption) | (with_reducible refine Below.alloc ?_ ?_ _) | (with_reducible refine Below.drew ?_) | (with_reducible refine below_drewN ?_ _) | (with_reducible refine Below.setCell ?_ ?_ _) | (with_reducible exact Nat.le_refl _) | omega | (simp; omega))
  · have hfin : readLetterS s.data.toList l ok = none := by rw [HD.out, if_neg (by simp)]
    have HR7 := Lib.hid hR7
    have HF := Lib.hid hfin
    clear hfin
    clear hR7
    have s0 : w7.cell? ⟨w.heap.size, 0, none⟩ = some (.int .i64 0) := HR7.out.cell 0
    have sf0 := HR7.out.free 0
    have s1 : w7.cell? ⟨w.heap.size, 1, none⟩ = some (.int .i64 0) := HR7.out.cell 1
    have sf1 := HR7.out.free 1
    have s2 : w7.cell? ⟨w.heap.size, 2, none⟩ = some (.int .i64 0) := HR7.out.cell 2
    have sf2 := HR7.out.free 2
    have s3 : w7.cell? ⟨w.heap.size, 3, none⟩ = some (.int .i64 0) := HR7.out.cell 3
    have sf3 := HR7.out.free 3
    have s4 : w7.cell? ⟨w.heap.size, 4, none⟩ = some (.int .i64 0) := HR7.out.cell 4
    have sf4 := HR7.out.free 4
    have s5 : w7.cell? ⟨w.heap.size, 5, none⟩ = some (.string ⟨#[]⟩) := HR7.out.cell 5
    have sf5 := HR7.out.free 5
    go_wp2
    refine bodyPost_ret (v := .tuple #[.agg #[.int .i64 0, .int .i64 0, .int .i64 0, .int .i64 0, .int .i64 0, .string ⟨#[]⟩], .bool false]) ?_ rfl ⟨by rw [HF.out]; rfl, ?_⟩
    · simp [results, Try.results13, go_sem, s0, s1, s2, s3, s4, s5]
    · repeat' (first | (with_reducible exact Below.refl _ _) | (with_reducible assumption) | (with_reducible refine Below.alloc ?_ ?_ _) | (with_reducible refine Below.drew ?_) | (with_reducible refine below_drewN ?_ _) | (with_reducible refine Below.setCell ?_ ?_ _) | (with_reducible exact Nat.le_refl _) | omega | (simp; omega))

end Go.Proofs.Ytkdajahiaedoiaa
