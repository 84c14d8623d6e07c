/- Changes: what both readers read. -/
import Derived.Test.YtmmnkndmlkhmhaaGreatDoorChange0
import Derived.Test.YtmmnkndmlkhmhaaGreatDoorFields
import Derived.Test.YtmmnkndmlkhmhaaGreatDoorSpecCur
namespace Go.Proofs.YtmmnkndmlkhmhaaGreatDoor
open Go.RowKit Pl
set_option linter.unusedVariables false
set_option linter.unusedSimpArgs false

/-- What the program's ReadChange reads. -/
def readChangeI (t : Bs) : Option (Nat × Bs × Bs) :=
  let (a, p1, b1) := numOf t 0 false
  let (n, p2, b2) := shortOf t p1 b1
  let (v, p3, b3) := shortOf t p2 b2
  if doneB b3 p3 t.length && changeOk a n v then some (a, n, v) else none
def rcVal : Option (Nat × Bs × Bs) → Value
  | none => .tuple #[.agg #[.int .i64 0, .string (bs []), .string (bs [])], .bool false]
  | some (a, n, v) => .tuple #[.agg #[.int .i64 (a : Int), .string (bs n), .string (bs v)], .bool true]

set_option maxRecDepth 100000 in
set_option maxHeartbeats 400000 in
theorem readChange_any (s : ByteArray) (w : World) (hs : (s.size : Int) ≤ 1000000000) :
    Calls Tryz.prog 290 #[.string s] w fun e w' => e = .returned (rcVal (readChangeI s.data.toList)) ∧ Below w.heap.size w w' := by
  rcases hA : numOf s.data.toList 0 false with ⟨a, p1, b1⟩
  have hp1 := (numOf_le (t := s.data.toList) (p := 0) (bad := false) (by omega))
  rw [hA, size_data] at hp1
  rcases hN : shortOf s.data.toList p1 b1 with ⟨n, p2, b2⟩
  have hp2 := (shortOf_le (t := s.data.toList) (p := p1) (bad := b1) (by rw [size_data]; exact hp1.1))
  rw [hN, size_data] at hp2
  rcases hV : shortOf s.data.toList p2 b2 with ⟨v, p3, b3⟩
  have hp3 := (shortOf_le (t := s.data.toList) (p := p2) (bad := b2) (by rw [size_data]; exact hp2.1))
  rw [hV, size_data] at hp3
  simp only at hp1 hp2 hp3
  obtain ⟨hp1, ha⟩ := hp1
  obtain ⟨hp2, hn⟩ := hp2
  obtain ⟨hp3, hv⟩ := hp3
  have hnz : ((bs n).size : Int) ≤ 1000000000 := by rw [bs_size]; omega
  have hvz : ((bs v).size : Int) ≤ 1000000000 := by rw [bs_size]; omega
  cases hd : doneB b3 p3 s.size
  · have hfin : readChangeI s.data.toList = none := by
      simp only [readChangeI, hA, hN, hV, size_data, hd]; rfl
    have HA := Lib.hid hA
    have HN := Lib.hid hN
    have HV := Lib.hid hV
    have HD := Lib.hid hd
    have HF := Lib.hid hfin
    clear hA hN hV hd hfin
    go_enter Tryz.func290, Tryz.ntmps290
    go_wp2_with (fail)
    refine (fnum_eq hs (by omega) HA.out (Fld.new (by simp))).mono ?_
    rintro e w1 ⟨rfl, hF1, hO1⟩
    go_wp2_with (fail)
    refine (fshort_eq hs hp1 HN.out hF1).mono ?_
    rintro e w2 ⟨rfl, hF2, hO2⟩
    go_wp2_with (fail)
    refine (fshort_eq hs hp2 HV.out hF2).mono ?_
    rintro e w3 ⟨rfl, hF3, hO3⟩
    have hB3 := ((((Box.new w _ _).alloc _).only hO1 (by omega)).only hO2 (by omega)).only hO3 (by omega)
    have hb3 : Below w.heap.size w w3 := (((Below.refl _ w).alloc (Nat.le_refl _) _).alloc (by simp) _).trans ((hO1.below (by omega) (by simp; omega)).trans ((hO2.trans hO3).below (by omega) (by have := Box.lt hF1; omega)))
    have d0 : w3.cell? ⟨w.heap.size, 0, none⟩ = some (.int .i64 0) := hB3.cell 0
    have d1 : w3.cell? ⟨w.heap.size, 1, none⟩ = some (.string ⟨#[]⟩) := hB3.cell 1
    have d2 : w3.cell? ⟨w.heap.size, 2, none⟩ = some (.string ⟨#[]⟩) := hB3.cell 2
    have e0 := hB3.free 0
    have e1 := hB3.free 1
    have e2 := hB3.free 2
    have hz : w.heap.size + 1 < w3.heap.size := Box.lt hF3
    have hz0 : w.heap.size < w3.heap.size := by omega
    have hz1 : w.heap.size ≠ w3.heap.size := by omega
    have HB := Lib.hid hB3
    clear hB3
    go_wp2_with (fail)
    refine (fdone_eq hs hp3 HD.out (hF3.alloc _)).mono ?_
    rintro e w4 ⟨rfl, nd, rfl⟩
    go_wp2
    refine bodyPost_ret (v := .tuple #[.agg #[.int .i64 0, .string ⟨#[]⟩, .string ⟨#[]⟩], .bool false]) ?_ rfl ⟨by rw [HF.out]; rfl, ?_⟩
    · simp [results, Tryz.results290, go_sem, d0, d1, d2, hz0]
    · exact (((below_drewN (hb3.alloc (by omega) _) nd).setCell (Nat.le_refl _) _).setCell (Nat.le_refl _) _).setCell (Nat.le_refl _) _
  · cases ho : changeOk a n v
    · have hfin : readChangeI s.data.toList = none := by
        simp only [readChangeI, hA, hN, hV, size_data, hd, ho]; rfl
      have hoc := fun W => changeOk_any (a : Int) (bs n) (bs v) W hnz hvz
      simp only [bs_data, ho] at hoc
      have HA := Lib.hid hA
      have HN := Lib.hid hN
      have HV := Lib.hid hV
      have HD := Lib.hid hd
      have HF := Lib.hid hfin
      have HO := Lib.hid ho
      have HC := Lib.hid hoc
      clear hA hN hV hd hfin ho hoc
      go_enter Tryz.func290, Tryz.ntmps290
      go_wp2_with (fail)
      refine (fnum_eq hs (by omega) HA.out (Fld.new (by simp))).mono ?_
      rintro e w1 ⟨rfl, hF1, hO1⟩
      go_wp2_with (fail)
      refine (fshort_eq hs hp1 HN.out hF1).mono ?_
      rintro e w2 ⟨rfl, hF2, hO2⟩
      go_wp2_with (fail)
      refine (fshort_eq hs hp2 HV.out hF2).mono ?_
      rintro e w3 ⟨rfl, hF3, hO3⟩
      have hB3 := ((((Box.new w _ _).alloc _).only hO1 (by omega)).only hO2 (by omega)).only hO3 (by omega)
      have hb3 : Below w.heap.size w w3 := (((Below.refl _ w).alloc (Nat.le_refl _) _).alloc (by simp) _).trans ((hO1.below (by omega) (by simp; omega)).trans ((hO2.trans hO3).below (by omega) (by have := Box.lt hF1; omega)))
      have d0 : w3.cell? ⟨w.heap.size, 0, none⟩ = some (.int .i64 0) := hB3.cell 0
      have d1 : w3.cell? ⟨w.heap.size, 1, none⟩ = some (.string ⟨#[]⟩) := hB3.cell 1
      have d2 : w3.cell? ⟨w.heap.size, 2, none⟩ = some (.string ⟨#[]⟩) := hB3.cell 2
      have e0 := hB3.free 0
      have e1 := hB3.free 1
      have e2 := hB3.free 2
      have hz : w.heap.size + 1 < w3.heap.size := Box.lt hF3
      have hz0 : w.heap.size < w3.heap.size := by omega
      have hz1 : w.heap.size ≠ w3.heap.size := by omega
      have HB := Lib.hid hB3
      clear hB3
      go_wp2_with (fail)
      refine (fdone_eq hs hp3 HD.out (hF3.alloc _)).mono ?_
      rintro e w4 ⟨rfl, nd, rfl⟩
      go_wp2_with (fail)
      refine (HC.out _).mono ?_
      rintro e w5 ⟨rfl, hb5⟩
      have hs5 := hb5.size
      simp only [World.heap_drewN, World.size_alloc] at hs5
      have h5 : ∀ i, w5.cell? ⟨w.heap.size, i, none⟩ = w3.cell? ⟨w.heap.size, i, none⟩ := fun i => (hb5.cell (p := ⟨w.heap.size, i, none⟩) (by simp; omega)).trans (World.cell?_alloc_lt w3 _ _ hz0)
      have g5 : ∀ i, w5.frozen? ⟨w.heap.size, i, none⟩ = false := fun i => (hb5.frozen (p := ⟨w.heap.size, i, none⟩) (by simp; omega)).trans (((HB.out.alloc _).drewN nd).free i)
      have k0 := (h5 0).trans d0
      have k1 := (h5 1).trans d1
      have k2 := (h5 2).trans d2
      have m0 := g5 0
      have m1 := g5 1
      have m2 := g5 2
      clear h5 g5
      go_wp2
      refine bodyPost_ret (v := .tuple #[.agg #[.int .i64 0, .string ⟨#[]⟩, .string ⟨#[]⟩], .bool false]) ?_ rfl ⟨by rw [HF.out]; rfl, ?_⟩
      · simp [results, Tryz.results290, go_sem, k0, k1, k2]
      · exact ((((below_drewN (hb3.alloc (by omega) _) nd).trans (hb5.mono (by simp; omega))).setCell (Nat.le_refl _) _).setCell (Nat.le_refl _) _).setCell (Nat.le_refl _) _
    · have hfin : readChangeI s.data.toList = some (a, n, v) := by
        simp only [readChangeI, hA, hN, hV, size_data, hd, ho]; rfl
      have hoc := fun W => changeOk_any (a : Int) (bs n) (bs v) W hnz hvz
      simp only [bs_data, ho] at hoc
      have HA := Lib.hid hA
      have HN := Lib.hid hN
      have HV := Lib.hid hV
      have HD := Lib.hid hd
      have HF := Lib.hid hfin
      have HO := Lib.hid ho
      have HC := Lib.hid hoc
      clear hA hN hV hd hfin ho hoc
      go_enter Tryz.func290, Tryz.ntmps290
      go_wp2_with (fail)
      refine (fnum_eq hs (by omega) HA.out (Fld.new (by simp))).mono ?_
      rintro e w1 ⟨rfl, hF1, hO1⟩
      go_wp2_with (fail)
      refine (fshort_eq hs hp1 HN.out hF1).mono ?_
      rintro e w2 ⟨rfl, hF2, hO2⟩
      go_wp2_with (fail)
      refine (fshort_eq hs hp2 HV.out hF2).mono ?_
      rintro e w3 ⟨rfl, hF3, hO3⟩
      have hB3 := ((((Box.new w _ _).alloc _).only hO1 (by omega)).only hO2 (by omega)).only hO3 (by omega)
      have hb3 : Below w.heap.size w w3 := (((Below.refl _ w).alloc (Nat.le_refl _) _).alloc (by simp) _).trans ((hO1.below (by omega) (by simp; omega)).trans ((hO2.trans hO3).below (by omega) (by have := Box.lt hF1; omega)))
      have d0 : w3.cell? ⟨w.heap.size, 0, none⟩ = some (.int .i64 0) := hB3.cell 0
      have d1 : w3.cell? ⟨w.heap.size, 1, none⟩ = some (.string ⟨#[]⟩) := hB3.cell 1
      have d2 : w3.cell? ⟨w.heap.size, 2, none⟩ = some (.string ⟨#[]⟩) := hB3.cell 2
      have e0 := hB3.free 0
      have e1 := hB3.free 1
      have e2 := hB3.free 2
      have hz : w.heap.size + 1 < w3.heap.size := Box.lt hF3
      have hz0 : w.heap.size < w3.heap.size := by omega
      have hz1 : w.heap.size ≠ w3.heap.size := by omega
      have HB := Lib.hid hB3
      clear hB3
      go_wp2_with (fail)
      refine (fdone_eq hs hp3 HD.out (hF3.alloc _)).mono ?_
      rintro e w4 ⟨rfl, nd, rfl⟩
      go_wp2_with (fail)
      refine (HC.out _).mono ?_
      rintro e w5 ⟨rfl, hb5⟩
      have hs5 := hb5.size
      simp only [World.heap_drewN, World.size_alloc] at hs5
      have h5 : ∀ i, w5.cell? ⟨w.heap.size, i, none⟩ = w3.cell? ⟨w.heap.size, i, none⟩ := fun i => (hb5.cell (p := ⟨w.heap.size, i, none⟩) (by simp; omega)).trans (World.cell?_alloc_lt w3 _ _ hz0)
      have g5 : ∀ i, w5.frozen? ⟨w.heap.size, i, none⟩ = false := fun i => (hb5.frozen (p := ⟨w.heap.size, i, none⟩) (by simp; omega)).trans (((HB.out.alloc _).drewN nd).free i)
      have k0 := (h5 0).trans d0
      have k1 := (h5 1).trans d1
      have k2 := (h5 2).trans d2
      have m0 := g5 0
      have m1 := g5 1
      have m2 := g5 2
      have hU : Box w5 w3.heap.size 242 #[.int .i64 (a : Int), .string (bs n), .string (bs v)] := ((Box.new w3 _ _).drewN nd).below hb5 (by simp)
      have u0 : w5.cell? ⟨w3.heap.size, 0, none⟩ = some (.int .i64 (a : Int)) := hU.cell 0
      have u1 : w5.cell? ⟨w3.heap.size, 1, none⟩ = some (.string (bs n)) := hU.cell 1
      have u2 : w5.cell? ⟨w3.heap.size, 2, none⟩ = some (.string (bs v)) := hU.cell 2
      clear h5 g5 hU
      go_wp2
      refine bodyPost_ret (v := .tuple #[.agg #[.int .i64 (a : Int), .string (bs n), .string (bs v)], .bool true]) ?_ rfl ⟨by rw [HF.out]; rfl, ?_⟩
      · simp [results, Tryz.results290, go_sem, k0, k1, k2]
      · exact ((((below_drewN (hb3.alloc (by omega) _) nd).trans (hb5.mono (by simp; omega))).setCell (Nat.le_refl _) _).setCell (Nat.le_refl _) _).setCell (Nat.le_refl _) _

/-- What the reference's ReadChange reads. -/
def readChangeS (t : Bs) : Option (Nat × Bs × Bs) :=
  let (a, p1, b1) := numS t 0 false
  let (n, p2, b2) := shortS t p1 b1
  let (v, p3, b3) := shortS t p2 b2
  if b3 = false ∧ changeOk a n v = true ∧ changeText a n v = t then some (a, n, v) else none

set_option maxRecDepth 100000 in
set_option maxHeartbeats 800000 in
theorem sReadChange_any (s : ByteArray) (w : World) (hs : (s.size : Int) ≤ 1000000000) :
    Calls Tryz.prog 280 #[.string s] w fun e w' => e = .returned (rcVal (readChangeS s.data.toList)) ∧ Below w.heap.size w w' := by
  rcases hA : numS s.data.toList 0 false with ⟨a, p1, b1⟩
  have hp1 := (numS_le (t := s.data.toList) (p := 0) (bad := false) (by omega))
  rw [hA, size_data] at hp1
  rcases hN : shortS s.data.toList p1 b1 with ⟨n, p2, b2⟩
  have hp2 := (shortS_le (t := s.data.toList) (p := p1) (bad := b1) (by rw [size_data]; exact hp1.1))
  rw [hN, size_data] at hp2
  rcases hV : shortS s.data.toList p2 b2 with ⟨v, p3, b3⟩
  have hp3 := (shortS_le (t := s.data.toList) (p := p2) (bad := b2) (by rw [size_data]; exact hp2.1))
  rw [hV, size_data] at hp3
  simp only at hp1 hp2 hp3
  obtain ⟨hp1, ha⟩ := hp1
  obtain ⟨hp2, hn⟩ := hp2
  obtain ⟨hp3, hv⟩ := hp3
  have hnz : ((bs n).size : Int) ≤ 1000000000 := by rw [bs_size]; omega
  have hvz : ((bs v).size : Int) ≤ 1000000000 := by rw [bs_size]; omega
  have hdef : readChangeS s.data.toList = if b3 = false ∧ changeOk a n v = true ∧ changeText a n v = s.data.toList then some (a, n, v) else none := by
    simp only [readChangeS, hA, hN, hV]
  have HA := Lib.hid hA
  have HN := Lib.hid hN
  have HV := Lib.hid hV
  have HD := Lib.hid hdef
  clear hA hN hV hdef
  go_enter Tryz.func280, Tryz.ntmps280
  go_wp2_with (fail)
  refine (cvar_eq hs (by omega) HA.out (Cur.new (by simp))).mono ?_
  rintro e w1 ⟨rfl, hF1, hO1⟩
  have hR1 := ((Box.new w _ _).alloc _).only hO1 (by omega)
  have hb1 : Below w.heap.size w w1 := (((Below.refl _ w).alloc (Nat.le_refl _) _).alloc (by simp) _).trans (hO1.below (by omega) (by simp; omega))
  have hz1 : w.heap.size + 1 < w1.heap.size := Box.lt hF1
  have hz1' : w.heap.size < w1.heap.size := by omega
  go_wp2_with (fail)
  refine (cshort_eq hs hp1 HN.out (hF1.alloc _)).mono ?_
  rintro e w2 ⟨rfl, hF2, hO2⟩
  have hU2 := (Box.new w1 242 #[.int .i64 (a : Int), .string ⟨#[]⟩, .string ⟨#[]⟩]).only hO2 (by omega)
  have hR2 := (hR1.alloc (.cells #[.int .i64 (a : Int), .string ⟨#[]⟩, .string ⟨#[]⟩] 242)).only hO2 (by omega)
  have hb2 : Below w.heap.size w w2 := (hb1.alloc (by omega) _).trans (hO2.below (by omega) (by simp; omega))
  have x1 : w2.cell? ⟨w1.heap.size, 1, none⟩ = some (.string ⟨#[]⟩) := hU2.cell 1
  have y1 := hU2.free 1
  have hz2 : w1.heap.size < w2.heap.size := Box.lt hU2
  go_wp2_with (fail)
  refine (cshort_eq hs hp2 HV.out (hF2.far (by simp; omega) _)).mono ?_
  rintro e w3 ⟨rfl, hF3, hO3⟩
  have hU3 := (hU2.set 1 (.string (bs n))).only hO3 (by omega)
  have hR3 := (hR2.far (p := ⟨w1.heap.size, 1, none⟩) (by simp; omega) (.string (bs n))).only hO3 (by omega)
  have hb3 : Below w.heap.size w w3 := (hb2.setCell (p := ⟨w1.heap.size, 1, none⟩) (by simp; omega) (.string (bs n))).trans (hO3.below (by omega) (by simp [World.setCell]; omega))
  have x2 : w3.cell? ⟨w1.heap.size, 2, none⟩ = some (.string ⟨#[]⟩) := hU3.cell 2
  have x1' : w3.cell? ⟨w1.heap.size, 1, none⟩ = some (.string (bs n)) := hU3.cell 1
  have x0 : w3.cell? ⟨w1.heap.size, 0, none⟩ = some (.int .i64 (a : Int)) := hU3.cell 0
  have y2 := hU3.free 2
  have hz3 : w1.heap.size < w3.heap.size := Box.lt hU3
  have hU4 := hU3.set 2 (.string (bs v))
  have hR4 := hR3.far (p := ⟨w1.heap.size, 2, none⟩) (by simp; omega) (.string (bs v))
  have hF4 := hF3.far (p := ⟨w1.heap.size, 2, none⟩) (by simp; omega) (.string (bs v))
  have hb4 := hb3.setCell (p := ⟨w1.heap.size, 2, none⟩) (by simp; omega) (.string (bs v))
  have hz4 : w1.heap.size < (w3.setCell ⟨w1.heap.size, 2, none⟩ (.string (bs v))).heap.size := Box.lt hU4
  cases ho : changeOk a n v
  · have hfin : readChangeS s.data.toList = none := by rw [HD.out, if_neg (by rw [ho]; simp)]
    have hc := fun W => sChangeText_no (a : Int) (bs n) (bs v) W hnz hvz (by rw [bs_data, bs_data]; exact ho)
    have HO := Lib.hid ho
    have HF := Lib.hid hfin
    have HC := Lib.hid hc
    clear ho hfin hc
    go_wp2_with (fail)
    refine (HC.out _).mono ?_
    rintro e w5 ⟨rfl, hb5⟩
    have hR5 := hR4.below hb5 (by omega)
    have hC5 := hF4.below hb5 (by omega)
    have d2 : w5.cell? ⟨w.heap.size + 1, 2, none⟩ = some (.bool b3) := hC5.cell 2
    have k0 : w5.cell? ⟨w.heap.size, 0, none⟩ = some (.int .i64 0) := hR5.cell 0
    have k1 : w5.cell? ⟨w.heap.size, 1, none⟩ = some (.string ⟨#[]⟩) := hR5.cell 1
    have k2 : w5.cell? ⟨w.heap.size, 2, none⟩ = some (.string ⟨#[]⟩) := hR5.cell 2
    have m0 := hR5.free 0
    have m1 := hR5.free 1
    have m2 := hR5.free 2
    have hB5 := hb4.trans (hb5.mono (by omega))
    clear hR5 hC5 hR4 hF4 hU4 x1 y1 x2 x1' x0 y2
    cases b3
    all_goals
      go_wp2
      refine bodyPost_ret (v := .tuple #[.agg #[.int .i64 0, .string ⟨#[]⟩, .string ⟨#[]⟩], .bool false]) ?_ rfl ⟨by rw [HF.out]; rfl, ?_⟩
      · simp [results, Tryz.results280, go_sem, k0, k1, k2]
      · exact ((hB5.setCell (Nat.le_refl _) _).setCell (Nat.le_refl _) _).setCell (Nat.le_refl _) _
  · have hc := fun W => sChangeText_yes a (bs n) (bs v) W hnz hvz (by rw [bs_data, bs_data]; exact ho)
    simp only [bs_data] at hc
    have HO := Lib.hid ho
    have HC := Lib.hid hc
    clear ho hc
    go_wp2_with (fail)
    refine (HC.out _).mono ?_
    rintro e w5 ⟨rfl, hb5⟩
    have hR5 := hR4.below hb5 (by omega)
    have hU5 := hU4.below hb5 (by omega)
    have hC5 := hF4.below hb5 (by omega)
    have d2 : w5.cell? ⟨w.heap.size + 1, 2, none⟩ = some (.bool b3) := hC5.cell 2
    have k0 : w5.cell? ⟨w.heap.size, 0, none⟩ = some (.int .i64 0) := hR5.cell 0
    have k1 : w5.cell? ⟨w.heap.size, 1, none⟩ = some (.string ⟨#[]⟩) := hR5.cell 1
    have k2 : w5.cell? ⟨w.heap.size, 2, none⟩ = some (.string ⟨#[]⟩) := hR5.cell 2
    have m0 := hR5.free 0
    have m1 := hR5.free 1
    have m2 := hR5.free 2
    have u0 : w5.cell? ⟨w1.heap.size, 0, none⟩ = some (.int .i64 (a : Int)) := hU5.cell 0
    have u1 : w5.cell? ⟨w1.heap.size, 1, none⟩ = some (.string (bs n)) := hU5.cell 1
    have u2 : w5.cell? ⟨w1.heap.size, 2, none⟩ = some (.string (bs v)) := hU5.cell 2
    have hB5 := hb4.trans (hb5.mono (by omega))
    clear hR5 hC5 hR4 hF4 hU4 hU5 x1 y1 x2 x1' x0 y2
    cases b3
    · by_cases heq : changeText a n v = s.data.toList
      · have hfin : readChangeS s.data.toList = some (a, n, v) := by rw [HD.out, if_pos ⟨rfl, HO.out, heq⟩]
        have he : ((bs (changeText a n v)).toList == s.toList) = true := by rw [toList_data, toList_data, bs_data, beq_iff_eq]; exact heq
        have HE := Lib.hid heq
        have HF := Lib.hid hfin
        clear heq hfin
        go_wp2
        refine bodyPost_ret (v := .tuple #[.agg #[.int .i64 (a : Int), .string (bs n), .string (bs v)], .bool true]) ?_ rfl ⟨by rw [HF.out]; rfl, ?_⟩
        · simp [results, Tryz.results280, go_sem, k0, k1, k2]
        · exact ((hB5.setCell (Nat.le_refl _) _).setCell (Nat.le_refl _) _).setCell (Nat.le_refl _) _
      · have hfin : readChangeS s.data.toList = none := by rw [HD.out, if_neg (by rintro ⟨_, _, h⟩; exact heq h)]
        have he : ((bs (changeText a n v)).toList == s.toList) = false := by rw [toList_data, toList_data, bs_data, beq_eq_false_iff_ne]; exact heq
        have HE := Lib.hid heq
        have HF := Lib.hid hfin
        clear heq hfin
        go_wp2
        refine bodyPost_ret (v := .tuple #[.agg #[.int .i64 0, .string ⟨#[]⟩, .string ⟨#[]⟩], .bool false]) ?_ rfl ⟨by rw [HF.out]; rfl, ?_⟩
        · simp [results, Tryz.results280, go_sem, k0, k1, k2]
        · exact ((hB5.setCell (Nat.le_refl _) _).setCell (Nat.le_refl _) _).setCell (Nat.le_refl _) _
    · have hfin : readChangeS s.data.toList = none := by rw [HD.out, if_neg (by simp)]
      have HF := Lib.hid hfin
      clear hfin
      go_wp2
      refine bodyPost_ret (v := .tuple #[.agg #[.int .i64 0, .string ⟨#[]⟩, .string ⟨#[]⟩], .bool false]) ?_ rfl ⟨by rw [HF.out]; rfl, ?_⟩
      · simp [results, Tryz.results280, go_sem, k0, k1, k2]
      · exact ((hB5.setCell (Nat.le_refl _) _).setCell (Nat.le_refl _) _).setCell (Nat.le_refl _) _
end Go.Proofs.YtmmnkndmlkhmhaaGreatDoor
