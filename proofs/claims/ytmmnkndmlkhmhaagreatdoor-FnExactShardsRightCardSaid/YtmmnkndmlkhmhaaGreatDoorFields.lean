/- The program's reader of fields: each of its methods, the reader's block known whole. -/
import Derived.Test.YtmmnkndmlkhmhaaGreatDoorWa
namespace Go.Proofs.YtmmnkndmlkhmhaaGreatDoor
open Go.RowKit Pl
set_option linter.unusedVariables false
set_option linter.unusedSimpArgs false

/-- The reader's block. -/
def Fld (w : World) (g : Nat) (s : ByteArray) (p : Nat) (bad : Bool) : Prop := Box w g 143 #[.string s, .int .i64 (p : Int), .bool bad]

theorem Fld.c0 {w : World} {g : Nat} {s : ByteArray} {p : Nat} {bad : Bool} (h : Fld w g s p bad) : w.cell? ⟨g, 0, none⟩ = some (.string s) := Box.cell h 0
theorem Fld.c1 {w : World} {g : Nat} {s : ByteArray} {p : Nat} {bad : Bool} (h : Fld w g s p bad) : w.cell? ⟨g, 1, none⟩ = some (.int .i64 (p : Int)) := Box.cell h 1
theorem Fld.c2 {w : World} {g : Nat} {s : ByteArray} {p : Nat} {bad : Bool} (h : Fld w g s p bad) : w.cell? ⟨g, 2, none⟩ = some (.bool bad) := Box.cell h 2

set_option maxRecDepth 100000 in
set_option maxHeartbeats 400000 in
theorem fnum_any (g : Nat) (s : ByteArray) (p : Nat) (bad : Bool) (w : World) (hs : (s.size : Int) ≤ 1000000000) (hp : p ≤ s.size) (hF : Fld w g s p bad) :
    Calls Tryz.prog 80 #[.pointer (some ⟨g, 0, none⟩)] w fun e w' => e = .returned (.int .i64 ((numOf s.data.toList p bad).1 : Int)) ∧ Fld w' g s (numOf s.data.toList p bad).2.1 (numOf s.data.toList p bad).2.2 ∧ Only g w w' := by
  have c0 := hF.c0
  have c1 := hF.c1
  have c2 := hF.c2
  have f1 : w.frozen? ⟨g, 1, none⟩ = false := Box.free hF 1
  have f2 : w.frozen? ⟨g, 2, none⟩ = false := Box.free hF 2
  have HF := Lib.hid hF
  clear hF
  rcases hr : readVar s.data.toList p with _ | ⟨n, q⟩
  · have hfin : numOf s.data.toList p bad = (0, p, true) := by rw [numOf, hr]
    have HR := Lib.hid hr
    have HN := Lib.hid hfin
    clear hr hfin
    go_enter Tryz.func80, Tryz.ntmps80
    go_wp2
    go_quiet ((go_at_call 178; exact quiet_l (readVar_none _ hs hp HR.out)))
    go_wp2
    go_ret
    rw [HN.out]
    exact ⟨rfl, Box.set (HF.out.drewN _) 2 _, ((Only.refl g w).drewN _).set (.inl rfl) _⟩
  · have hfin : numOf s.data.toList p bad = (n, q, bad) := by rw [numOf, hr]
    have HR := Lib.hid hr
    have HN := Lib.hid hfin
    clear hr hfin
    go_enter Tryz.func80, Tryz.ntmps80
    go_wp2
    go_quiet ((go_at_call 178; exact quiet_l (readVar_some _ hs hp HR.out)))
    go_wp2
    go_ret
    rw [HN.out]
    exact ⟨rfl, Box.set (HF.out.drewN _) 1 _, ((Only.refl g w).drewN _).set (.inl rfl) _⟩

set_option maxRecDepth 100000 in
set_option maxHeartbeats 400000 in
theorem fshort_any (g : Nat) (s : ByteArray) (p : Nat) (bad : Bool) (w : World) (hs : (s.size : Int) ≤ 1000000000) (hp : p ≤ s.size) (hF : Fld w g s p bad) :
    Calls Tryz.prog 81 #[.pointer (some ⟨g, 0, none⟩)] w fun e w' => e = .returned (.string (bs (shortOf s.data.toList p bad).1)) ∧ Fld w' g s (shortOf s.data.toList p bad).2.1 (shortOf s.data.toList p bad).2.2 ∧ Only g w w' := by
  have c0 := hF.c0
  have c1 := hF.c1
  have c2 := hF.c2
  have f1 : w.frozen? ⟨g, 1, none⟩ = false := Box.free hF 1
  have f2 : w.frozen? ⟨g, 2, none⟩ = false := Box.free hF 2
  have HF := Lib.hid hF
  clear hF
  rcases hr : readShort s.data.toList p with _ | ⟨l, q⟩
  · have hfin : shortOf s.data.toList p bad = ([], p, true) := by rw [shortOf, hr]
    have HR := Lib.hid hr
    have HN := Lib.hid hfin
    clear hr hfin
    go_enter Tryz.func81, Tryz.ntmps81
    go_wp2
    go_quiet ((go_at_call 179; exact quiet_l (readShort_none _ hs hp HR.out)))
    go_wp2
    go_ret
    rw [HN.out]
    exact ⟨rfl, Box.set (HF.out.drewN _) 2 _, ((Only.refl g w).drewN _).set (.inl rfl) _⟩
  · have hfin : shortOf s.data.toList p bad = (l, q, bad) := by rw [shortOf, hr]
    have HR := Lib.hid hr
    have HN := Lib.hid hfin
    clear hr hfin
    go_enter Tryz.func81, Tryz.ntmps81
    go_wp2
    go_quiet ((go_at_call 179; exact quiet_l (readShort_some _ hs hp HR.out)))
    go_wp2
    go_ret
    rw [HN.out]
    exact ⟨rfl, Box.set (HF.out.drewN _) 1 _, ((Only.refl g w).drewN _).set (.inl rfl) _⟩

set_option maxRecDepth 100000 in
set_option maxHeartbeats 400000 in
theorem fdone_any (g : Nat) (s : ByteArray) (p : Nat) (bad : Bool) (w : World) (hs : (s.size : Int) ≤ 1000000000) (hp : p ≤ s.size) (hF : Fld w g s p bad) :
    Calls Tryz.prog 84 #[.pointer (some ⟨g, 0, none⟩)] w fun e w' => e = .returned (.bool (doneB bad p s.size)) ∧ ∃ n, w' = w.drewN n := by
  have c0 := hF.c0
  have c1 := hF.c1
  have c2 := hF.c2
  clear hF
  cases bad
  · by_cases h : p = s.size
    · have h1 : ((p : Int) == (s.size : Int)) = true := by simp [h]
      have h2 : doneB false p s.size = true := by simp [doneB, h]
      have H2 := Lib.hid h2
      clear h h2
      go_enter Tryz.func84, Tryz.ntmps84
      go_wp2
      go_quiet (fail)
      go_wp2
      go_ret
      exact ⟨by rw [H2.out]; rfl, _, rfl⟩
    · have h1 : ((p : Int) == (s.size : Int)) = false := by simp; omega
      have h2 : doneB false p s.size = false := by simp [doneB, h]
      have H2 := Lib.hid h2
      clear h h2
      go_enter Tryz.func84, Tryz.ntmps84
      go_wp2
      go_quiet (fail)
      go_wp2
      go_ret
      exact ⟨by rw [H2.out]; rfl, _, rfl⟩
  · go_enter Tryz.func84, Tryz.ntmps84
    go_wp2
    go_quiet (fail)
    go_wp2
    go_ret
    exact ⟨rfl, _, rfl⟩

set_option maxRecDepth 100000 in
set_option maxHeartbeats 400000 in
theorem fbytes_any (g : Nat) (s : ByteArray) (p n : Nat) (bad : Bool) (w : World) (hs : (s.size : Int) ≤ 1000000000) (hp : p ≤ s.size) (hn : (n : Int) ≤ 1000000000) (hF : Fld w g s p bad) :
    Calls Tryz.prog 83 #[.pointer (some ⟨g, 0, none⟩), .int .i64 (n : Int)] w fun e w' => e = .returned (.string (bs (bytesOf s.data.toList p bad n).1)) ∧ Fld w' g s (bytesOf s.data.toList p bad n).2.1 (bytesOf s.data.toList p bad n).2.2 ∧ Only g w w' := by
  have c0 := hF.c0
  have c1 := hF.c1
  have c2 := hF.c2
  have f1 : w.frozen? ⟨g, 1, none⟩ = false := Box.free hF 1
  have f2 : w.frozen? ⟨g, 2, none⟩ = false := Box.free hF 2
  have h0 : decide ((n : Int) < 0) = false := by simp
  have HF := Lib.hid hF
  clear hF
  by_cases hb : bad = true
  · subst hb
    have hfin : bytesOf s.data.toList p true n = ([], p, true) := by rw [bytesOf, if_pos (.inl rfl)]
    have HN := Lib.hid hfin
    clear hfin
    go_enter Tryz.func83, Tryz.ntmps83
    go_wp2
    go_quiet (fail)
    go_wp2
    go_ret
    rw [HN.out]
    exact ⟨rfl, Box.set (HF.out.drewN _) 2 _, ((Only.refl g w).drewN _).set (.inl rfl) _⟩
  · obtain rfl : bad = false := by simpa using hb
    clear hb
    by_cases hlt : (s.size : Int) - (p : Int) < (n : Int)
    · have hfin : bytesOf s.data.toList p false n = ([], p, true) := by rw [bytesOf, size_data, if_pos (.inr (by omega))]
      have hd : decide ((s.size : Int) - (p : Int) < (n : Int)) = true := by simpa using hlt
      have HN := Lib.hid hfin
      clear hfin
      go_enter Tryz.func83, Tryz.ntmps83
      go_wp2
      go_quiet (fail)
      go_wp2
      go_ret
      rw [HN.out]
      exact ⟨rfl, Box.set (HF.out.drewN _) 2 _, ((Only.refl g w).drewN _).set (.inl rfl) _⟩
    · have hfin : bytesOf s.data.toList p false n = ((s.data.toList.drop p).take n, p + n, false) := by rw [bytesOf, size_data, if_neg (by simp; omega)]
      have hd : decide ((s.size : Int) - (p : Int) < (n : Int)) = false := by simp; omega
      have HN := Lib.hid hfin
      clear hfin
      have hpn : (p : Int) + (n : Int) ≤ (s.size : Int) := by omega
      go_enter Tryz.func83, Tryz.ntmps83
      go_wp2
      go_quiet (fail)
      go_wp2
      go_quiet (fail)
      go_wp2
      go_ret
      rw [HN.out]
      have e1 : s.extract p (p + n) = bs ((s.data.toList.drop p).take n) := data_ext (by rw [data_extract, bs_data, Nat.add_sub_cancel_left])
      refine ⟨congrArg (fun x => Ending.returned (Value.string x)) e1, ?_, (((Only.refl g w).drewN _).set (.inl rfl) _).drewN _⟩
      unfold Fld
      rw [Int.natCast_add]
      exact Box.drewN (Box.set (HF.out.drewN _) 1 _) _

set_option maxRecDepth 100000 in
set_option maxHeartbeats 400000 in
theorem fone_any (g : Nat) (s : ByteArray) (p : Nat) (bad : Bool) (w : World) (hs : (s.size : Int) ≤ 1000000000) (hp : p ≤ s.size) (hF : Fld w g s p bad) :
    Calls Tryz.prog 429 #[.pointer (some ⟨g, 0, none⟩)] w fun e w' => e = .returned (.int .i64 ((oneOf s.data.toList p bad).1 : Int)) ∧ Fld w' g s (oneOf s.data.toList p bad).2.1 (oneOf s.data.toList p bad).2.2 ∧ Only g w w' := by
  have hc := fbytes_any g s p 1 bad w hs hp (by omega) hF
  rcases hr : bytesOf s.data.toList p bad 1 with ⟨l, q, b⟩
  rw [hr] at hc
  rcases l with _ | ⟨x, l⟩
  · have hfin : oneOf s.data.toList p bad = (0, q, b) := by rw [oneOf, hr]
    have HN := Lib.hid hfin
    have HC := Lib.hid hc
    clear hr hfin hc
    have he : (bs []).toList = [] := by rw [toList_data, bs_data]
    go_enter Tryz.func429, Tryz.ntmps429
    go_wp2_with (go_at_call 83; refine HC.out.mono ?_; rintro e w1 ⟨rfl, hF1, hO1⟩)
    go_ret
    rw [HN.out]
    exact ⟨rfl, hF1, hO1⟩
  · have hfin : oneOf s.data.toList p bad = (x.toNat, q, b) := by rw [oneOf, hr]
    have HN := Lib.hid hfin
    have HC := Lib.hid hc
    clear hr hfin hc
    have he : (bs (x :: l)).toList = x :: l := by rw [toList_data, bs_data]
    have hsz : 0 < (bs (x :: l)).size := by rw [bs_size]; simp
    have hnb := get_nb (bs (x :: l))
    have hn0 : nb (bs (x :: l)) 0 = x.toNat := nb_bs x l
    have hx : (x.toNat : Int) ≤ 255 := by have := x.toNat_lt; omega
    go_enter Tryz.func429, Tryz.ntmps429
    go_wp2_with (go_at_call 83; refine HC.out.mono ?_; rintro e w1 ⟨rfl, hF1, hO1⟩)
    go_ret
    rw [HN.out]
    exact ⟨rfl, hF1, hO1⟩

/-! ### the same, where the answer has names -/
section
variable {g : Nat} {s : ByteArray} {p q n : Nat} {bad b : Bool} {l : Bs} {w : World} (hs : (s.size : Int) ≤ 1000000000) (hp : p ≤ s.size)
include hs hp
theorem fnum_eq (h : numOf s.data.toList p bad = (n, q, b)) (hF : Fld w g s p bad) :
    Calls Tryz.prog 80 #[.pointer (some ⟨g, 0, none⟩)] w fun e w' => e = .returned (.int .i64 (n : Int)) ∧ Fld w' g s q b ∧ Only g w w' := by
  have := fnum_any g s p bad w hs hp hF
  rw [h] at this; exact this
theorem fshort_eq (h : shortOf s.data.toList p bad = (l, q, b)) (hF : Fld w g s p bad) :
    Calls Tryz.prog 81 #[.pointer (some ⟨g, 0, none⟩)] w fun e w' => e = .returned (.string (bs l)) ∧ Fld w' g s q b ∧ Only g w w' := by
  have := fshort_any g s p bad w hs hp hF
  rw [h] at this; exact this
theorem fone_eq (h : oneOf s.data.toList p bad = (n, q, b)) (hF : Fld w g s p bad) :
    Calls Tryz.prog 429 #[.pointer (some ⟨g, 0, none⟩)] w fun e w' => e = .returned (.int .i64 (n : Int)) ∧ Fld w' g s q b ∧ Only g w w' := by
  have := fone_any g s p bad w hs hp hF
  rw [h] at this; exact this
theorem fdone_eq {d : Bool} (h : doneB bad p s.size = d) (hF : Fld w g s p bad) :
    Calls Tryz.prog 84 #[.pointer (some ⟨g, 0, none⟩)] w fun e w' => e = .returned (.bool d) ∧ ∃ n, w' = w.drewN n := by
  have := fdone_any g s p bad w hs hp hF
  rw [h] at this; exact this
end
theorem Fld.new {w : World} {g : Nat} {s : ByteArray} (h : g = w.heap.size) : Fld (w.alloc (.cells #[.string s, .int .i64 0, .bool false] 143)) g s 0 false := by subst h; exact Box.new w _ _
end Go.Proofs.YtmmnkndmlkhmhaaGreatDoor
