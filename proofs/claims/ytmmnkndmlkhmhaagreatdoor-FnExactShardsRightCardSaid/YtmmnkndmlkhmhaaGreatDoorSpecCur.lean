/- The reference's reader of fields: each of its functions, the reader's block known whole. -/
import Derived.Test.YtmmnkndmlkhmhaaGreatDoorWa
import Derived.Test.YtmmnkndmlkhmhaaGreatDoorPlainA
namespace Go.Proofs.YtmmnkndmlkhmhaaGreatDoor
open Go.RowKit Pl
set_option linter.unusedVariables false
set_option linter.unusedSimpArgs false

/-- The reference's reader's block. -/
def Cur (w : World) (g : Nat) (s : ByteArray) (p : Nat) (bad : Bool) : Prop := Box w g 331 #[.string s, .int .i64 (p : Int), .bool bad]
theorem Cur.c0 {w : World} {g : Nat} {s : ByteArray} {p : Nat} {bad : Bool} (h : Cur w g s p bad) : w.cell? ⟨g, 0, none⟩ = some (.string s) := Box.cell h 0
theorem Cur.c1 {w : World} {g : Nat} {s : ByteArray} {p : Nat} {bad : Bool} (h : Cur w g s p bad) : w.cell? ⟨g, 1, none⟩ = some (.int .i64 (p : Int)) := Box.cell h 1
theorem Cur.c2 {w : World} {g : Nat} {s : ByteArray} {p : Nat} {bad : Bool} (h : Cur w g s p bad) : w.cell? ⟨g, 2, none⟩ = some (.bool bad) := Box.cell h 2

set_option maxRecDepth 100000 in
set_option maxHeartbeats 400000 in
theorem cvar_any (g : Nat) (s : ByteArray) (p : Nat) (bad : Bool) (w : World) (hs : (s.size : Int) ≤ 1000000000) (hp : p ≤ s.size) (hF : Cur w g s p bad) :
    Calls Tryz.prog 282 #[.pointer (some ⟨g, 0, none⟩)] w fun e w' => e = .returned (.int .i64 ((numS s.data.toList p bad).1 : Int)) ∧ Cur w' g s (numS s.data.toList p bad).2.1 (numS s.data.toList p bad).2.2 ∧ Only g w w' := by
  have hg := Box.lt hF
  have c0 := hF.c0
  have c1 := hF.c1
  have c2 := hF.c2
  have f1 : w.frozen? ⟨g, 1, none⟩ = false := Box.free hF 1
  have f2 : w.frozen? ⟨g, 2, none⟩ = false := Box.free hF 2
  have HF := Lib.hid hF
  clear hF
  rcases hr : readVar s.data.toList p with _ | ⟨n, q⟩
  · have hfin : numS s.data.toList p bad = (0, p, true) := by rw [numS, numOf, hr]; simp
    have HR := Lib.hid hr
    have HN := Lib.hid hfin
    clear hr hfin
    cases bad
    · skip
      go_enter Tryz.func282, Tryz.ntmps282
      go_wp2
      go_region_held3 (fun W => W.cell? ⟨g, 0, none⟩ = some (.string s) ∧ W.cell? ⟨g, 1, none⟩ = some (.int .i64 (p : Int))) (first | exact ⟨c0, c1⟩ | exact ⟨(hb1.cell hg).trans c0, (hb1.cell hg).trans c1⟩) (first | (go_at_call 359; refine (sReadVar_none _ hs hp HR.out).mono ?_; rintro e w1 ⟨rfl, hb1⟩) | fail)
      have hB : Below w.heap.size w w1 := (Below.refl _ w).drew.trans hb1
      have hF1 : Cur w1 g s p false := Box.below HF.out hB hg
      have d2 := hF1.c2
      have e1 : w1.frozen? ⟨g, 1, none⟩ = false := Box.free hF1 1
      have e2 : w1.frozen? ⟨g, 2, none⟩ = false := Box.free hF1 2
      have d1 := hF1.c1
      have H1 := Lib.hid hF1
      clear hF1 c0 c1 c2 f1 f2
      go_wp2
      go_ret
      rw [HN.out]
      exact ⟨rfl, H1.out.set 2 _, (Only.of_below hB g).set (.inl rfl) _⟩
    · skip
      go_enter Tryz.func282, Tryz.ntmps282
      go_wp2
      go_region_held3 (fun W => W.cell? ⟨g, 0, none⟩ = some (.string s) ∧ W.cell? ⟨g, 1, none⟩ = some (.int .i64 (p : Int))) (first | exact ⟨c0, c1⟩ | exact ⟨(hb1.cell hg).trans c0, (hb1.cell hg).trans c1⟩) (first | (go_at_call 359; refine (sReadVar_none _ hs hp HR.out).mono ?_; rintro e w1 ⟨rfl, hb1⟩) | fail)
      have hB : Below w.heap.size w w1 := (Below.refl _ w).drew.trans hb1
      have hF1 : Cur w1 g s p true := Box.below HF.out hB hg
      have d2 := hF1.c2
      have e1 : w1.frozen? ⟨g, 1, none⟩ = false := Box.free hF1 1
      have e2 : w1.frozen? ⟨g, 2, none⟩ = false := Box.free hF1 2
      have d1 := hF1.c1
      have H1 := Lib.hid hF1
      clear hF1 c0 c1 c2 f1 f2
      go_wp2
      go_ret
      rw [HN.out]
      exact ⟨rfl, H1.out.set 2 _, (Only.of_below hB g).set (.inl rfl) _⟩
  · cases bad
    · have hfin : numS s.data.toList p false = (n, q, false) := by rw [numS, numOf, hr]; simp
      have HR := Lib.hid hr
      have HN := Lib.hid hfin
      clear hr hfin
      go_enter Tryz.func282, Tryz.ntmps282
      go_wp2
      go_region_held3 (fun W => W.cell? ⟨g, 0, none⟩ = some (.string s) ∧ W.cell? ⟨g, 1, none⟩ = some (.int .i64 (p : Int))) (first | exact ⟨c0, c1⟩ | exact ⟨(hb1.cell hg).trans c0, (hb1.cell hg).trans c1⟩) (first | (go_at_call 359; refine (sReadVar_some _ hs hp HR.out).mono ?_; rintro e w1 ⟨rfl, hb1⟩) | fail)
      have hB : Below w.heap.size w w1 := (Below.refl _ w).drew.trans hb1
      have hF1 : Cur w1 g s p false := Box.below HF.out hB hg
      have d2 := hF1.c2
      have e1 : w1.frozen? ⟨g, 1, none⟩ = false := Box.free hF1 1
      have e2 : w1.frozen? ⟨g, 2, none⟩ = false := Box.free hF1 2
      have d1 := hF1.c1
      have H1 := Lib.hid hF1
      clear hF1 c0 c1 c2 f1 f2
      go_wp2
      go_ret
      rw [HN.out]
      exact ⟨rfl, H1.out.set 1 _, (Only.of_below hB g).set (.inl rfl) _⟩
    · have hfin : numS s.data.toList p true = (0, p, true) := by rw [numS]; simp
      have HR := Lib.hid hr
      have HN := Lib.hid hfin
      clear hr hfin
      go_enter Tryz.func282, Tryz.ntmps282
      go_wp2
      go_region_held3 (fun W => W.cell? ⟨g, 0, none⟩ = some (.string s) ∧ W.cell? ⟨g, 1, none⟩ = some (.int .i64 (p : Int))) (first | exact ⟨c0, c1⟩ | exact ⟨(hb1.cell hg).trans c0, (hb1.cell hg).trans c1⟩) (first | (go_at_call 359; refine (sReadVar_some _ hs hp HR.out).mono ?_; rintro e w1 ⟨rfl, hb1⟩) | fail)
      have hB : Below w.heap.size w w1 := (Below.refl _ w).drew.trans hb1
      have hF1 : Cur w1 g s p true := Box.below HF.out hB hg
      have d2 := hF1.c2
      have e1 : w1.frozen? ⟨g, 1, none⟩ = false := Box.free hF1 1
      have e2 : w1.frozen? ⟨g, 2, none⟩ = false := Box.free hF1 2
      have d1 := hF1.c1
      have H1 := Lib.hid hF1
      clear hF1 c0 c1 c2 f1 f2
      go_wp2
      go_ret
      rw [HN.out]
      exact ⟨rfl, H1.out.set 2 _, (Only.of_below hB g).set (.inl rfl) _⟩

set_option maxRecDepth 100000 in
set_option maxHeartbeats 400000 in
theorem cshort_any (g : Nat) (s : ByteArray) (p : Nat) (bad : Bool) (w : World) (hs : (s.size : Int) ≤ 1000000000) (hp : p ≤ s.size) (hF : Cur w g s p bad) :
    Calls Tryz.prog 361 #[.pointer (some ⟨g, 0, none⟩)] w fun e w' => e = .returned (.string (bs (shortS s.data.toList p bad).1)) ∧ Cur w' g s (shortS s.data.toList p bad).2.1 (shortS s.data.toList p bad).2.2 ∧ Only g w w' := by
  have hg := Box.lt hF
  have c0 := hF.c0
  have c1 := hF.c1
  have c2 := hF.c2
  have f1 : w.frozen? ⟨g, 1, none⟩ = false := Box.free hF 1
  have f2 : w.frozen? ⟨g, 2, none⟩ = false := Box.free hF 2
  have HF := Lib.hid hF
  clear hF
  rcases hr : readShort s.data.toList p with _ | ⟨n, q⟩
  · have hfin : shortS s.data.toList p bad = ([], p, true) := by rw [shortS, shortOf, hr]; simp
    have HR := Lib.hid hr
    have HN := Lib.hid hfin
    clear hr hfin
    cases bad
    · skip
      go_enter Tryz.func361, Tryz.ntmps361
      go_wp2
      go_region_held3 (fun W => W.cell? ⟨g, 0, none⟩ = some (.string s) ∧ W.cell? ⟨g, 1, none⟩ = some (.int .i64 (p : Int))) (first | exact ⟨c0, c1⟩ | exact ⟨(hb1.cell hg).trans c0, (hb1.cell hg).trans c1⟩) (first | (go_at_call 407; refine (sReadShort_none _ hs hp HR.out).mono ?_; rintro e w1 ⟨rfl, hb1⟩) | fail)
      have hB : Below w.heap.size w w1 := (Below.refl _ w).drew.trans hb1
      have hF1 : Cur w1 g s p false := Box.below HF.out hB hg
      have d2 := hF1.c2
      have e1 : w1.frozen? ⟨g, 1, none⟩ = false := Box.free hF1 1
      have e2 : w1.frozen? ⟨g, 2, none⟩ = false := Box.free hF1 2
      have d1 := hF1.c1
      have H1 := Lib.hid hF1
      clear hF1 c0 c1 c2 f1 f2
      go_wp2
      go_ret
      rw [HN.out]
      exact ⟨rfl, H1.out.set 2 _, (Only.of_below hB g).set (.inl rfl) _⟩
    · skip
      go_enter Tryz.func361, Tryz.ntmps361
      go_wp2
      go_region_held3 (fun W => W.cell? ⟨g, 0, none⟩ = some (.string s) ∧ W.cell? ⟨g, 1, none⟩ = some (.int .i64 (p : Int))) (first | exact ⟨c0, c1⟩ | exact ⟨(hb1.cell hg).trans c0, (hb1.cell hg).trans c1⟩) (first | (go_at_call 407; refine (sReadShort_none _ hs hp HR.out).mono ?_; rintro e w1 ⟨rfl, hb1⟩) | fail)
      have hB : Below w.heap.size w w1 := (Below.refl _ w).drew.trans hb1
      have hF1 : Cur w1 g s p true := Box.below HF.out hB hg
      have d2 := hF1.c2
      have e1 : w1.frozen? ⟨g, 1, none⟩ = false := Box.free hF1 1
      have e2 : w1.frozen? ⟨g, 2, none⟩ = false := Box.free hF1 2
      have d1 := hF1.c1
      have H1 := Lib.hid hF1
      clear hF1 c0 c1 c2 f1 f2
      go_wp2
      go_ret
      rw [HN.out]
      exact ⟨rfl, H1.out.set 2 _, (Only.of_below hB g).set (.inl rfl) _⟩
  · cases bad
    · have hfin : shortS s.data.toList p false = (n, q, false) := by rw [shortS, shortOf, hr]; simp
      have HR := Lib.hid hr
      have HN := Lib.hid hfin
      clear hr hfin
      go_enter Tryz.func361, Tryz.ntmps361
      go_wp2
      go_region_held3 (fun W => W.cell? ⟨g, 0, none⟩ = some (.string s) ∧ W.cell? ⟨g, 1, none⟩ = some (.int .i64 (p : Int))) (first | exact ⟨c0, c1⟩ | exact ⟨(hb1.cell hg).trans c0, (hb1.cell hg).trans c1⟩) (first | (go_at_call 407; refine (sReadShort_some _ hs hp HR.out).mono ?_; rintro e w1 ⟨rfl, hb1⟩) | fail)
      have hB : Below w.heap.size w w1 := (Below.refl _ w).drew.trans hb1
      have hF1 : Cur w1 g s p false := Box.below HF.out hB hg
      have d2 := hF1.c2
      have e1 : w1.frozen? ⟨g, 1, none⟩ = false := Box.free hF1 1
      have e2 : w1.frozen? ⟨g, 2, none⟩ = false := Box.free hF1 2
      have d1 := hF1.c1
      have H1 := Lib.hid hF1
      clear hF1 c0 c1 c2 f1 f2
      go_wp2
      go_ret
      rw [HN.out]
      exact ⟨rfl, H1.out.set 1 _, (Only.of_below hB g).set (.inl rfl) _⟩
    · have hfin : shortS s.data.toList p true = ([], p, true) := by rw [shortS]; simp
      have HR := Lib.hid hr
      have HN := Lib.hid hfin
      clear hr hfin
      go_enter Tryz.func361, Tryz.ntmps361
      go_wp2
      go_region_held3 (fun W => W.cell? ⟨g, 0, none⟩ = some (.string s) ∧ W.cell? ⟨g, 1, none⟩ = some (.int .i64 (p : Int))) (first | exact ⟨c0, c1⟩ | exact ⟨(hb1.cell hg).trans c0, (hb1.cell hg).trans c1⟩) (first | (go_at_call 407; refine (sReadShort_some _ hs hp HR.out).mono ?_; rintro e w1 ⟨rfl, hb1⟩) | fail)
      have hB : Below w.heap.size w w1 := (Below.refl _ w).drew.trans hb1
      have hF1 : Cur w1 g s p true := Box.below HF.out hB hg
      have d2 := hF1.c2
      have e1 : w1.frozen? ⟨g, 1, none⟩ = false := Box.free hF1 1
      have e2 : w1.frozen? ⟨g, 2, none⟩ = false := Box.free hF1 2
      have d1 := hF1.c1
      have H1 := Lib.hid hF1
      clear hF1 c0 c1 c2 f1 f2
      go_wp2
      go_ret
      rw [HN.out]
      exact ⟨rfl, H1.out.set 2 _, (Only.of_below hB g).set (.inl rfl) _⟩

set_option maxRecDepth 100000 in
set_option maxHeartbeats 400000 in
theorem cbyte_any (g : Nat) (s : ByteArray) (p : Nat) (bad : Bool) (w : World) (hs : (s.size : Int) ≤ 1000000000) (hp : p ≤ s.size) (hF : Cur w g s p bad) :
    Calls Tryz.prog 279 #[.pointer (some ⟨g, 0, none⟩)] w fun e w' => e = .returned (.int .i64 ((oneOf s.data.toList p bad).1 : Int)) ∧ Cur w' g s (oneOf s.data.toList p bad).2.1 (oneOf s.data.toList p bad).2.2 ∧ Only g w w' := by
  have c0 := hF.c0
  have c1 := hF.c1
  have c2 := hF.c2
  have f1 : w.frozen? ⟨g, 1, none⟩ = false := Box.free hF 1
  have f2 : w.frozen? ⟨g, 2, none⟩ = false := Box.free hF 2
  have HF := Lib.hid hF
  clear hF
  cases bad
  · by_cases hin : (p : Int) < (s.size : Int)
    · obtain ⟨b, hbn, hdr⟩ := drop_nb s p (by omega)
      have hfin : oneOf s.data.toList p false = (nb s p, p + 1, false) := by
        rw [oneOf, bytesOf, size_data, if_neg (by simp; omega), hdr]
        simp [hbn]
      have hd : decide ((p : Int) < (s.size : Int)) = true := by simpa using hin
      have hd' : (!decide ((p : Int) < (s.size : Int))) = false := by simpa using hin
      have hnb := get_nb s
      have hb1 := nb_le s p
      have HN := Lib.hid hfin
      have HB := Lib.hid hbn
      have HD := Lib.hid hdr
      clear hfin hbn hdr
      have k1 : IntKind.i64.wrap ((p : Int) + 1 - 1) = (p : Int) := IntWalk.i64_in _ (by omega) |>.trans (by omega)
      go_enter Tryz.func279, Tryz.ntmps279
      go_wp2
      go_quiet (fail)
      go_wp2
      go_quiet (fail)
      go_wp2
      go_ret
      rw [HN.out]
      refine ⟨rfl, ?_, (((Only.refl g w).drewN _).set (.inl rfl) _).drewN _⟩
      unfold Cur
      rw [Int.natCast_add]
      exact Box.drewN (Box.set (HF.out.drewN _) 1 _) _
    · have hfin : oneOf s.data.toList p false = (0, p, true) := by
        rw [oneOf, bytesOf, size_data, if_pos (.inr (by omega))]
      have hd : decide ((p : Int) < (s.size : Int)) = false := by simpa using hin
      have HN := Lib.hid hfin
      clear hfin
      go_enter Tryz.func279, Tryz.ntmps279
      go_wp2
      go_quiet (fail)
      go_wp2
      go_ret
      rw [HN.out]
      exact ⟨rfl, Box.set (HF.out.drewN _) 2 _, ((Only.refl g w).drewN _).set (.inl rfl) _⟩
  · have hfin : oneOf s.data.toList p true = (0, p, true) := by
      rw [oneOf, bytesOf, if_pos (.inl rfl)]
    have HN := Lib.hid hfin
    clear hfin
    go_enter Tryz.func279, Tryz.ntmps279
    go_wp2
    go_quiet (fail)
    go_wp2
    go_ret
    rw [HN.out]
    exact ⟨rfl, Box.set (HF.out.drewN _) 2 _, ((Only.refl g w).drewN _).set (.inl rfl) _⟩

/-! ### the same, where the answer has names -/
section
variable {g : Nat} {s : ByteArray} {p q n : Nat} {z : Int} {bad b : Bool} {l : Bs} {w : World} (hs : (s.size : Int) ≤ 1000000000) (hp : p ≤ s.size)
include hs hp
theorem cvar_eq (h : numS s.data.toList p bad = (n, q, b)) (hF : Cur w g s p bad) :
    Calls Tryz.prog 282 #[.pointer (some ⟨g, 0, none⟩)] w fun e w' => e = .returned (.int .i64 (n : Int)) ∧ Cur w' g s q b ∧ Only g w w' := by
  have := cvar_any g s p bad w hs hp hF
  rw [h] at this; exact this
theorem cshort_eq (h : shortS s.data.toList p bad = (l, q, b)) (hF : Cur w g s p bad) :
    Calls Tryz.prog 361 #[.pointer (some ⟨g, 0, none⟩)] w fun e w' => e = .returned (.string (bs l)) ∧ Cur w' g s q b ∧ Only g w w' := by
  have := cshort_any g s p bad w hs hp hF
  rw [h] at this; exact this
theorem cbyte_eq (h : oneOf s.data.toList p bad = (n, q, b)) (hF : Cur w g s p bad) :
    Calls Tryz.prog 279 #[.pointer (some ⟨g, 0, none⟩)] w fun e w' => e = .returned (.int .i64 (n : Int)) ∧ Cur w' g s q b ∧ Only g w w' := by
  have := cbyte_any g s p bad w hs hp hF
  rw [h] at this; exact this
end
theorem Cur.new {w : World} {g : Nat} {s : ByteArray} {b : Bool} (h : g = w.heap.size) : Cur (w.alloc (.cells #[.string s, .int .i64 0, .bool b] 331)) g s 0 b := by subst h; exact Box.new w _ _
end Go.Proofs.YtmmnkndmlkhmhaaGreatDoor
