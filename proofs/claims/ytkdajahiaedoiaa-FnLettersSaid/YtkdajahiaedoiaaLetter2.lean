/- Letters: ReadLetter, both sides. -/
import Derived.Test.YtkdajahiaedoiaaLetter1
import Derived.Test.YtkdajahiaedoiaaFields
import Derived.Test.YtkdajahiaedoiaaSpecCur
namespace Go.Proofs.Ytkdajahiaedoiaa
open Go.RowKit Pl
set_option linter.unusedVariables false

/-- What Unsealed hands back, in two parts. -/
def us2 (t : Bs) : Bs × Bool := match unsealed t with
  | none => ([], false)
  | some s => (s, true)
theorem us2_val (t : Bs) : usVal (unsealed t) = .tuple #[.string (bs (us2 t).1), .bool (us2 t).2] := by
  unfold us2; rcases unsealed t with _ | s <;> rfl
theorem us2_len (t : Bs) : (us2 t).1.length ≤ 20000 := by
  unfold us2
  rcases h : unsealed t with _ | s
  · simp
  · exact unsealed_len h
def rlVal : Option Lt → Value
  | none => .tuple #[.agg #[.int .i64 0, .int .i64 0, .int .i64 0, .int .i64 0, .int .i64 0, .string (bs [])], .bool false]
  | some (k, f, t, e, y, r) => .tuple #[.agg #[.int .i64 (k : Int), .int .i64 (f : Int), .int .i64 (t : Int), .int .i64 (e : Int), .int .i64 (y : Int), .string (bs r)], .bool true]
theorem ext_drop (l : Bs) (p : Nat) : (bs l).extract p (bs l).size = bs (l.drop p) := data_ext (by rw [data_extract, bs_data, bs_data, bs_size, List.take_of_length_le (by simp)])

set_option maxRecDepth 100000 in
set_option maxHeartbeats 1600000 in
theorem readLetter_any (s : ByteArray) (w : World) (hs : (s.size : Int) ≤ 1000000000) :
    Calls Try.prog 14 #[.string s] w fun e w' => e = .returned (rlVal (readLetterI (us2 s.data.toList).1 (us2 s.data.toList).2)) ∧ Below w.heap.size w w' := by
  have hc := fun W => unsealed_any s W hs
  rw [us2_val] at hc
  have hl := us2_len s.data.toList
  rcases hU : us2 s.data.toList with ⟨l, ok⟩
  rw [hU] at hc hl
  have hl' : l.length ≤ 20000 := hl
  have hz : ((bs l).size : Int) ≤ 1000000000 := by rw [bs_size]; omega
  rcases hK : oneOf l 0 false with ⟨k, p1, b1⟩
  have hp1 := (oneOf_le (t := l) (p := 0) (b := false) (by omega))
  rw [hK] at hp1
  obtain ⟨hp1, hv1⟩ : p1 ≤ l.length ∧ k ≤ 255 := hp1
  have q1 : p1 ≤ (bs l).size := by rw [bs_size]; exact hp1
  rcases hF : oneOf l p1 b1 with ⟨f, p2, b2⟩
  have hp2 := (oneOf_le (t := l) (p := p1) (b := b1) (by omega))
  rw [hF] at hp2
  obtain ⟨hp2, hv2⟩ : p2 ≤ l.length ∧ f ≤ 255 := hp2
  have q2 : p2 ≤ (bs l).size := by rw [bs_size]; exact hp2
  rcases hT : oneOf l p2 b2 with ⟨t, p3, b3⟩
  have hp3 := (oneOf_le (t := l) (p := p2) (b := b2) (by omega))
  rw [hT] at hp3
  obtain ⟨hp3, hv3⟩ : p3 ≤ l.length ∧ t ≤ 255 := hp3
  have q3 : p3 ≤ (bs l).size := by rw [bs_size]; exact hp3
  rcases hE : oneOf l p3 b3 with ⟨e, p4, b4⟩
  have hp4 := (oneOf_le (t := l) (p := p3) (b := b3) (by omega))
  rw [hE] at hp4
  obtain ⟨hp4, hv4⟩ : p4 ≤ l.length ∧ e ≤ 255 := hp4
  have q4 : p4 ≤ (bs l).size := by rw [bs_size]; exact hp4
  rcases hY : numOf l p4 b4 with ⟨y, p5, b5⟩
  have hp5 := (numOf_le (t := l) (p := p4) (bad := b4) hp4)
  rw [hY] at hp5
  obtain ⟨hp5, hv5⟩ : p5 ≤ l.length ∧ y ≤ 1000000000 := hp5
  have q5 : (p5 : Int) ≤ ((bs l).size : Int) := by rw [bs_size]; omega
  have hext := ext_drop l p5
  have hdef : readLetterI l ok = if ok = true ∧ b5 = false ∧ letterOk k f t e y (l.drop p5) = true then some (k, f, t, e, y, l.drop p5) else none := by
    simp only [readLetterI, hK, hF, hT, hE, hY]
  rw [← bs_data l] at hK hF hT hE hY
  have HK := Lib.hid hK
  have HFF := Lib.hid hF
  have HT := Lib.hid hT
  have HE := Lib.hid hE
  have HY := Lib.hid hY
  have HD := Lib.hid hdef
  have HC := Lib.hid hc
  have HU := Lib.hid hU
  have HL := Lib.hid hl
  clear hK hF hT hE hY hdef hc hU hl
  go_enter Try.func14, Try.ntmps14
  go_wp2_with (fail)
  refine (HC.out _).mono ?_
  rintro e' w1 ⟨rfl, hb1⟩
  have hR1 := (Box.new w 29 #[.int .i64 0, .int .i64 0, .int .i64 0, .int .i64 0, .int .i64 0, .string ⟨#[]⟩]).below hb1 (by simp)
  have hB1 : Below w.heap.size w w1 := ((Below.refl _ w).alloc (Nat.le_refl _) _).trans (hb1.mono (by simp))
  have hz1 : w.heap.size < w1.heap.size := hR1.lt
  go_wp2_with (fail)
  refine (fone_eq hz (by omega) HK.out (Fld.new rfl)).mono ?_
  rintro e' w2 ⟨rfl, hF2, hO2⟩
  go_wp2_with (fail)
  refine (fone_eq hz q1 HFF.out hF2).mono ?_
  rintro e' w3 ⟨rfl, hF3, hO3⟩
  go_wp2_with (fail)
  refine (fone_eq hz q2 HT.out hF3).mono ?_
  rintro e' w4 ⟨rfl, hF4, hO4⟩
  go_wp2_with (fail)
  refine (fone_eq hz q3 HE.out hF4).mono ?_
  rintro e' w5 ⟨rfl, hF5, hO5⟩
  go_wp2_with (fail)
  refine (fnum_eq hz q4 HY.out hF5).mono ?_
  rintro e' w6 ⟨rfl, hF6, hO6⟩
  have hO := (((hO2.trans hO3).trans hO4).trans hO5).trans hO6
  have hR6 := (hR1.alloc (.cells #[.string (bs l), .int .i64 0, .bool false] 77)).only hO (by omega)
  have hB6 : Below w.heap.size w w6 := (hB1.alloc (by omega) _).trans (hO.below (by omega) (by simp; omega))
  have hz6 : w1.heap.size < w6.heap.size := Box.lt hF6
  have hz6' : w.heap.size < w6.heap.size := by omega
  have d1 : w6.cell? ⟨w1.heap.size, 1, none⟩ = some (.int .i64 (p5 : Int)) := hF6.c1
  have d2 : w6.cell? ⟨w1.heap.size, 2, none⟩ = some (.bool b5) := hF6.c2
  have r0 : w6.cell? ⟨w.heap.size, 0, none⟩ = some (.int .i64 0) := hR6.cell 0
  have rf0 := hR6.free 0
  have r1 : w6.cell? ⟨w.heap.size, 1, none⟩ = some (.int .i64 0) := hR6.cell 1
  have rf1 := hR6.free 1
  have r2 : w6.cell? ⟨w.heap.size, 2, none⟩ = some (.int .i64 0) := hR6.cell 2
  have rf2 := hR6.free 2
  have r3 : w6.cell? ⟨w.heap.size, 3, none⟩ = some (.int .i64 0) := hR6.cell 3
  have rf3 := hR6.free 3
  have r4 : w6.cell? ⟨w.heap.size, 4, none⟩ = some (.int .i64 0) := hR6.cell 4
  have rf4 := hR6.free 4
  have r5 : w6.cell? ⟨w.heap.size, 5, none⟩ = some (.string ⟨#[]⟩) := hR6.cell 5
  have rf5 := hR6.free 5
  have HR := Lib.hid hR6
  clear hR6 hR1 hO
  cases ok
  · have hfin : readLetterI l false = none := by rw [HD.out, if_neg (by simp)]
    have HF := Lib.hid hfin
    clear hfin
    go_wp2
    refine bodyPost_ret (v := .tuple #[.agg #[.int .i64 0, .int .i64 0, .int .i64 0, .int .i64 0, .int .i64 0, .string ⟨#[]⟩], .bool false]) ?_ rfl ⟨by rw [HF.out]; rfl, ?_⟩
    · simp [results, Try.results14, go_sem, r0, r1, r2, r3, r4, r5, hz6']
    · repeat' (first | (with_reducible exact Below.refl _ _) | (with_reducible assumption) | (with_reducible refine Below.alloc ?_ ?_ _) | (with_reducible refine Below.drew ?_) | (with_reducible refine below_drewN ?_ _) | (with_reducible refine Below.setCell ?_ ?_ _) | (with_reducible exact Nat.le_refl _) | omega | (simp; omega))
  · cases b5
    · have hX2 := Box.new w6 29 #[.int .i64 (k : Int), .int .i64 (f : Int), .int .i64 (t : Int), .int .i64 (e : Int), .int .i64 (y : Int), .string (bs (l.drop p5))]
      cases ho : letterOk k f t e y (l.drop p5)
      all_goals
        have hoc := fun W => letterOk_any (k : Int) (f : Int) (t : Int) (e : Int) (y : Int) (bs (l.drop p5)) W
        simp only [bs_data, ho] at hoc
        have HOC := Lib.hid hoc
        clear hoc
      · have hfin : readLetterI l true = none := by rw [HD.out, if_neg (by rw [ho]; simp)]
        have HF := Lib.hid hfin
        have HO := Lib.hid ho
        clear hfin ho
        go_wp2_with (fail)
        refine (HOC.out _).mono ?_
        rintro e' w7 ⟨rfl, hb7⟩
        have hR7 := (HR.out.alloc (.cells #[.int .i64 (k : Int), .int .i64 (f : Int), .int .i64 (t : Int), .int .i64 (e : Int), .int .i64 (y : Int), .string (bs (l.drop p5))] 29)).below hb7 (by simp; omega)
        have hB7 := (hB6.alloc hB6.size _).trans (hb7.mono (by simp; omega))
        have HR7 := Lib.hid hR7
        clear hb7 hR7 hX2 HR r0 rf0 r1 rf1 r2 rf2 r3 rf3 r4 rf4 r5 rf5
        have s0 : w7.cell? ⟨w.heap.size, 0, none⟩ = some (.int .i64 0) := HR7.out.cell 0
        have sf0 := HR7.out.free 0
        have s1 : w7.cell? ⟨w.heap.size, 1, none⟩ = some (.int .i64 0) := HR7.out.cell 1
        have sf1 := HR7.out.free 1
        have s2 : w7.cell? ⟨w.heap.size, 2, none⟩ = some (.int .i64 0) := HR7.out.cell 2
        have sf2 := HR7.out.free 2
        have s3 : w7.cell? ⟨w.heap.size, 3, none⟩ = some (.int .i64 0) := HR7.out.cell 3
        have sf3 := HR7.out.free 3
        have s4 : w7.cell? ⟨w.heap.size, 4, none⟩ = some (.int .i64 0) := HR7.out.cell 4
        have sf4 := HR7.out.free 4
        have s5 : w7.cell? ⟨w.heap.size, 5, none⟩ = some (.string ⟨#[]⟩) := HR7.out.cell 5
        have sf5 := HR7.out.free 5
        go_wp2
        refine bodyPost_ret (v := .tuple #[.agg #[.int .i64 0, .int .i64 0, .int .i64 0, .int .i64 0, .int .i64 0, .string ⟨#[]⟩], .bool false]) ?_ rfl ⟨by rw [HF.out]; rfl, ?_⟩
        · simp [results, Try.results14, go_sem, s0, s1, s2, s3, s4, s5]
        · repeat' (first | (with_reducible exact Below.refl _ _) | (with_reducible assumption) | (with_reducible refine Below.alloc ?_ ?_ _) | (with_reducible refine Below.drew ?_) | (with_reducible refine below_drewN ?_ _) | (with_reducible refine Below.setCell ?_ ?_ _) | (with_reducible exact Nat.le_refl _) | omega | (simp; omega))
      · have hfin : readLetterI l true = some (k, f, t, e, y, l.drop p5) := by rw [HD.out, if_pos ⟨rfl, rfl, ho⟩]
        have HF := Lib.hid hfin
        have HO := Lib.hid ho
        clear hfin ho
        go_wp2_with (fail)
        refine (HOC.out _).mono ?_
        rintro e' w7 ⟨rfl, hb7⟩
        have hR7 := (HR.out.alloc (.cells #[.int .i64 (k : Int), .int .i64 (f : Int), .int .i64 (t : Int), .int .i64 (e : Int), .int .i64 (y : Int), .string (bs (l.drop p5))] 29)).below hb7 (by simp; omega)
        have hB7 := (hB6.alloc hB6.size _).trans (hb7.mono (by simp; omega))
        have hX7 := hX2.below hb7 (by simp)
        have HR7 := Lib.hid hR7
        have HX7 := Lib.hid hX7
        clear hb7 hR7 hX2 hX7 HR r0 rf0 r1 rf1 r2 rf2 r3 rf3 r4 rf4 r5 rf5
        have s0 : w7.cell? ⟨w.heap.size, 0, none⟩ = some (.int .i64 0) := HR7.out.cell 0
        have sf0 := HR7.out.free 0
        have s1 : w7.cell? ⟨w.heap.size, 1, none⟩ = some (.int .i64 0) := HR7.out.cell 1
        have sf1 := HR7.out.free 1
        have s2 : w7.cell? ⟨w.heap.size, 2, none⟩ = some (.int .i64 0) := HR7.out.cell 2
        have sf2 := HR7.out.free 2
        have s3 : w7.cell? ⟨w.heap.size, 3, none⟩ = some (.int .i64 0) := HR7.out.cell 3
        have sf3 := HR7.out.free 3
        have s4 : w7.cell? ⟨w.heap.size, 4, none⟩ = some (.int .i64 0) := HR7.out.cell 4
        have sf4 := HR7.out.free 4
        have s5 : w7.cell? ⟨w.heap.size, 5, none⟩ = some (.string ⟨#[]⟩) := HR7.out.cell 5
        have sf5 := HR7.out.free 5
        have x0 : w7.cell? ⟨w6.heap.size, 0, none⟩ = some (.int .i64 (k : Int)) := HX7.out.cell 0
        have x1 : w7.cell? ⟨w6.heap.size, 1, none⟩ = some (.int .i64 (f : Int)) := HX7.out.cell 1
        have x2 : w7.cell? ⟨w6.heap.size, 2, none⟩ = some (.int .i64 (t : Int)) := HX7.out.cell 2
        have x3 : w7.cell? ⟨w6.heap.size, 3, none⟩ = some (.int .i64 (e : Int)) := HX7.out.cell 3
        have x4 : w7.cell? ⟨w6.heap.size, 4, none⟩ = some (.int .i64 (y : Int)) := HX7.out.cell 4
        have x5 : w7.cell? ⟨w6.heap.size, 5, none⟩ = some (.string (bs (l.drop p5))) := HX7.out.cell 5
        go_wp2
        refine bodyPost_ret (v := .tuple #[.agg #[.int .i64 (k : Int), .int .i64 (f : Int), .int .i64 (t : Int), .int .i64 (e : Int), .int .i64 (y : Int), .string (bs (l.drop p5))], .bool true]) ?_ rfl ⟨by rw [HF.out]; rfl, ?_⟩
        · simp [results, Try.results14, go_sem, s0, s1, s2, s3, s4, s5]
        · repeat' (first | (with_reducible exact Below.refl _ _) | (with_reducible assumption) | (with_reducible refine Below.alloc ?_ ?_ _) | (with_reducible refine Below.drew ?_) | (with_reducible refine below_drewN ?_ _) | (with_reducible refine Below.setCell ?_ ?_ _) | (with_reducible exact Nat.le_refl _) | omega | (simp; omega))
    · have hfin : readLetterI l true = none := by rw [HD.out, if_neg (by simp)]
      have HF := Lib.hid hfin
      clear hfin
      go_wp2
      refine bodyPost_ret (v := .tuple #[.agg #[.int .i64 0, .int .i64 0, .int .i64 0, .int .i64 0, .int .i64 0, .string ⟨#[]⟩], .bool false]) ?_ rfl ⟨by rw [HF.out]; rfl, ?_⟩
      · simp [results, Try.results14, go_sem, r0, r1, r2, r3, r4, r5, hz6']
      · repeat' (first | (with_reducible exact Below.refl _ _) | (with_reducible assumption) | (with_reducible refine Below.alloc ?_ ?_ _) | (with_reducible refine Below.drew ?_) | (with_reducible refine below_drewN ?_ _) | (with_reducible refine Below.setCell ?_ ?_ _) | (with_reducible exact Nat.le_refl _) | omega | (simp; omega))
end Go.Proofs.Ytkdajahiaedoiaa
