/- Changes: the tests, the texts, the readers of both sides, and the law that they agree. The program's reader of fields: each of its methods, the reader's block known whole. The reference's reader of fields: each of its functions, the reader's block known whole. Changes: what both readers read. Checksums: what both sides' functions compute. -/
import Derived.Test.YtnhcfmmdaihneaaGreatDoorWa
import Derived.Deep.RegionHeld3
import Derived.Test.YtnhcfmmdaihneaaGreatDoorPlainM
namespace Go.Proofs.YtnhcfmmdaihneaaGreatDoor
set_option maxRecDepth 100000
set_option maxHeartbeats 400000
set_option linter.unusedVariables false
set_option linter.unusedSimpArgs false
set_option linter.unusedSectionVars false
open Go.RowKit Pl
def z0z (id : Int) (n v : Bs) : Bool := (decide (1 ≤ id) && decide (id ≤ 99)) && z1j n && (v.isEmpty || z1a v)
theorem z64 (id : Int) (n v : ByteArray) (w : World) (hn : (n.size : Int) ≤ 1000000000) (hv : (v.size : Int) ≤ 1000000000) :
 Calls Tryz.prog 257 #[.agg #[.int .i64 id, .string n, .string v]] w fun e w' => e = .returned (.bool (z0z id n.data.toList v.data.toList)) ∧ Below w.heap.size w w' := by
 by_cases hid : 1 ≤ id ∧ id ≤ 99
 ·obtain ⟨h1, h2⟩ := hid
  cases hN : z1j n.data.toList
  ·have hfin : z0z id n.data.toList v.data.toList = false := by rw [z0z, hN]; simp
   have HF := Lib.hid hfin
   clear hfin
   go_enter Tryz.func257, Tryz.ntmps257
   go_wp2_with (first | (go_at_call 94; refine (z72 _ _ _ _ h1 h2).mono ?_; rintro e w1 ⟨rfl, rfl⟩) | (go_at_call 227; refine (z5F _ _ hn).mono ?_; rintro e w1 ⟨rfl, rfl⟩))
   go_ret
   exact ⟨by rw [HF.out]; rfl, (Below.refl _ _).alloc (Nat.le_refl _) _⟩
  ·cases hE : v.toList.isEmpty
   ·have hfin : z0z id n.data.toList v.data.toList = z1a v.data.toList := by rw [toList_data] at hE; rw [z0z, hN, hE]; simp [h1, h2]
    have HF := Lib.hid hfin
    clear hfin
    go_enter Tryz.func257, Tryz.ntmps257
    go_wp2_with (first | (go_at_call 94; refine (z72 _ _ _ _ h1 h2).mono ?_; rintro e w1 ⟨rfl, rfl⟩) | (go_at_call 227; refine (z5F _ _ hn).mono ?_; rintro e w1 ⟨rfl, rfl⟩) | (go_at_call 228; refine (zbL _ _ hv).mono ?_; rintro e w1 ⟨rfl, rfl⟩))
    go_ret
    exact ⟨by rw [HF.out]; rfl, (Below.refl _ _).alloc (Nat.le_refl _) _⟩
   ·have hfin : z0z id n.data.toList v.data.toList = true := by rw [toList_data] at hE; rw [z0z, hN, hE]; simp [h1, h2]
    have HF := Lib.hid hfin
    clear hfin
    go_enter Tryz.func257, Tryz.ntmps257
    go_wp2_with (first | (go_at_call 94; refine (z72 _ _ _ _ h1 h2).mono ?_; rintro e w1 ⟨rfl, rfl⟩) | (go_at_call 227; refine (z5F _ _ hn).mono ?_; rintro e w1 ⟨rfl, rfl⟩))
    go_ret
    exact ⟨by rw [HF.out]; rfl, (Below.refl _ _).alloc (Nat.le_refl _) _⟩
 ·have hfin : z0z id n.data.toList v.data.toList = false := by
   rw [z0z]
   have : (decide (1 ≤ id) && decide (id ≤ 99)) = false := by simp; omega
   rw [this]; simp
  have HF := Lib.hid hfin
  clear hfin
  go_enter Tryz.func257, Tryz.ntmps257
  go_wp2_with (go_at_call 94; refine (ziw _ _ _ _ hid).mono ?_; rintro e w1 ⟨rfl, rfl⟩)
  go_ret
  exact ⟨by rw [HF.out]; rfl, (Below.refl _ _).alloc (Nat.le_refl _) _⟩
theorem z59 (id : Int) (n v : ByteArray) (w : World) (hn : (n.size : Int) ≤ 1000000000) (hv : (v.size : Int) ≤ 1000000000) :
 Calls Tryz.prog 276 #[.agg #[.int .i64 id, .string n, .string v]] w fun e w' => e = .returned (.bool (z0z id n.data.toList v.data.toList)) ∧ Below w.heap.size w w' := by
 by_cases hid : 1 ≤ id ∧ id ≤ 99
 ·obtain ⟨h1, h2⟩ := hid
  cases hN : z1j n.data.toList
  ·have hfin : z0z id n.data.toList v.data.toList = false := by rw [z0z, hN]; simp
   have HF := Lib.hid hfin
   clear hfin
   go_enter Tryz.func276, Tryz.ntmps276
   go_wp2_with (first | (go_at_call 84; refine (z5E _ _ _ _ h1 h2).mono ?_; rintro e w1 ⟨rfl, rfl⟩) | (go_at_call 217; refine (z4u _ _ hn).mono ?_; rintro e w1 ⟨rfl, rfl⟩))
   go_ret
   exact ⟨by rw [HF.out]; rfl, (Below.refl _ _).alloc (Nat.le_refl _) _⟩
  ·cases hE : v.toList.isEmpty
   ·have hfin : z0z id n.data.toList v.data.toList = z1a v.data.toList := by rw [toList_data] at hE; rw [z0z, hN, hE]; simp [h1, h2]
    have HF := Lib.hid hfin
    clear hfin
    go_enter Tryz.func276, Tryz.ntmps276
    go_wp2_with (first | (go_at_call 84; refine (z5E _ _ _ _ h1 h2).mono ?_; rintro e w1 ⟨rfl, rfl⟩) | (go_at_call 217; refine (z4u _ _ hn).mono ?_; rintro e w1 ⟨rfl, rfl⟩) | (go_at_call 218; refine (zab _ _ hv).mono ?_; rintro e w1 ⟨rfl, rfl⟩))
    go_ret
    exact ⟨by rw [HF.out]; rfl, (Below.refl _ _).alloc (Nat.le_refl _) _⟩
   ·have hfin : z0z id n.data.toList v.data.toList = true := by rw [toList_data] at hE; rw [z0z, hN, hE]; simp [h1, h2]
    have HF := Lib.hid hfin
    clear hfin
    go_enter Tryz.func276, Tryz.ntmps276
    go_wp2_with (first | (go_at_call 84; refine (z5E _ _ _ _ h1 h2).mono ?_; rintro e w1 ⟨rfl, rfl⟩) | (go_at_call 217; refine (z4u _ _ hn).mono ?_; rintro e w1 ⟨rfl, rfl⟩))
    go_ret
    exact ⟨by rw [HF.out]; rfl, (Below.refl _ _).alloc (Nat.le_refl _) _⟩
 ·have hfin : z0z id n.data.toList v.data.toList = false := by
   rw [z0z]
   have : (decide (1 ≤ id) && decide (id ≤ 99)) = false := by simp; omega
   rw [this]; simp
  have HF := Lib.hid hfin
  clear hfin
  go_enter Tryz.func276, Tryz.ntmps276
  go_wp2_with (go_at_call 84; refine (zg2 _ _ _ _ hid).mono ?_; rintro e w1 ⟨rfl, rfl⟩)
  go_ret
  exact ⟨by rw [HF.out]; rfl, (Below.refl _ _).alloc (Nat.le_refl _) _⟩
def z18 (id : Int) (n v : Bs) : Bs := z0r id.toNat ++ z0v n ++ z0v v
theorem z7S (id : Int) (n v : ByteArray) (w : World) (hn : (n.size : Int) ≤ 1000000000) (hv : (v.size : Int) ≤ 1000000000) (ho : z0z id n.data.toList v.data.toList = false) :
 Calls Tryz.prog 255 #[.agg #[.int .i64 id, .string n, .string v]] w fun e w' => e = .returned (.tuple #[.string (bs []), .bool false]) ∧ Below w.heap.size w w' := by
 go_enter Tryz.func255, Tryz.ntmps255
 go_wp2_with (go_at_call 276; refine (z59 _ _ _ _ hn hv).mono ?_; rintro e w1 ⟨rfl, hb1⟩)
 go_ret2
 exact ⟨rfl, ((Below.refl _ w).alloc (Nat.le_refl _) _).trans (hb1.mono (by simp))⟩
theorem z7b (id : Nat) (n v : ByteArray) (w : World) (hn : (n.size : Int) ≤ 1000000000) (hv : (v.size : Int) ≤ 1000000000) (ho : z0z (id : Int) n.data.toList v.data.toList = true) :
 Calls Tryz.prog 255 #[.agg #[.int .i64 (id : Int), .string n, .string v]] w fun e w' => e = .returned (.tuple #[.string (bs (z18 (id : Int) n.data.toList v.data.toList)), .bool true]) ∧ Below w.heap.size w w' := by
 have hi : (id : Int) ≤ 99 := by
  unfold z0z at ho
  simp at ho; omega
 have l1 := z1q (n := id) (by omega)
 have l2 := z1q (n := n.size) (by omega)
 have l3 := z1q (n := v.size) (by omega)
 rw [← z0R] at l1 l2 l3
 have q1 : ¬ (9223372036854775807 < (bs (z0r id)).size + (bs (z0r n.size)).size) := by omega
 have q2 : ¬ (9223372036854775807 < (bs (z0r id)).size + (bs (z0r n.size)).size + n.size) := by omega
 have q3 : ¬ (9223372036854775807 < (bs (z0r id)).size + (bs (z0r n.size)).size + n.size + (bs (z0r v.size)).size) := by omega
 have q4 : ¬ (9223372036854775807 < (bs (z0r id)).size + (bs (z0r n.size)).size + n.size + (bs (z0r v.size)).size + v.size) := by omega
 go_enter Tryz.func255, Tryz.ntmps255
 go_wp2_with (go_at_call 276; refine (z59 _ _ _ _ hn hv).mono ?_; rintro e w1 ⟨rfl, hb1⟩)
 have hB1 : Below w.heap.size w w1 := ((Below.refl _ w).alloc (Nat.le_refl _) _).trans (hb1.mono (by simp))
 have hX1 := (Box.new w 226 #[.int .i64 (id : Int), .string n, .string v]).below hb1 (by simp)
 go_region_held3 (fun W => Below w.heap.size w W ∧ Box W w.heap.size 226 #[.int .i64 (id : Int), .string n, .string v] ∧ W.cell? ⟨w.heap.size, 0, none⟩ = some (.int .i64 (id : Int)) ∧ W.cell? ⟨w.heap.size, 1, none⟩ = some (.string n) ∧ W.cell? ⟨w.heap.size, 2, none⟩ = some (.string v)) (first | exact ⟨hB1.drew, hX1.drew, hX1.drew.cell 0, hX1.drew.cell 1, hX1.drew.cell 2⟩ | assumption | exact zg1 (by assumption) hb) (first | (go_at_call 113; refine (z6p _ _ (by omega)).mono ?_; rintro e w2 ⟨rfl, hb⟩) | fail)
 rename Below _ _ _ ∧ _ => hH
 have hB2 := hH.1
 clear hH
 go_wp2
 go_ret2
 refine ⟨?_, hB2⟩
 have e1 : bs (z0r id) ++ bs (z0r n.size) ++ n ++ bs (z0r v.size) ++ v = bs (z18 (id : Int) n.data.toList v.data.toList) := by
  refine z4K ?_
  simp only [data_append, z0V, z18, z0v, z0u, Int.toNat_natCast, List.append_assoc]
 rw [← e1]; rfl
end Go.Proofs.YtnhcfmmdaihneaaGreatDoor
namespace Go.Proofs.YtnhcfmmdaihneaaGreatDoor
set_option maxRecDepth 100000
set_option maxHeartbeats 400000
set_option linter.unusedVariables false
set_option linter.unusedSimpArgs false
set_option linter.unusedSectionVars false
open Go.RowKit Pl
def Fld (w : World) (g : Nat) (s : ByteArray) (p : Nat) (bad : Bool) : Prop := Box w g 88 #[.string s, .int .i64 (p : Int), .bool bad]
theorem Fld.c0 {w : World} {g : Nat} {s : ByteArray} {p : Nat} {bad : Bool} (h : Fld w g s p bad) : w.cell? ⟨g, 0, none⟩ = some (.string s) := Box.cell h 0
theorem Fld.c1 {w : World} {g : Nat} {s : ByteArray} {p : Nat} {bad : Bool} (h : Fld w g s p bad) : w.cell? ⟨g, 1, none⟩ = some (.int .i64 (p : Int)) := Box.cell h 1
theorem Fld.c2 {w : World} {g : Nat} {s : ByteArray} {p : Nat} {bad : Bool} (h : Fld w g s p bad) : w.cell? ⟨g, 2, none⟩ = some (.bool bad) := Box.cell h 2
theorem ziC (g : Nat) (s : ByteArray) (p : Nat) (bad : Bool) (w : World) (hs : (s.size : Int) ≤ 1000000000) (hp : p ≤ s.size) (hF : Fld w g s p bad) :
 Calls Tryz.prog 42 #[.pointer (some ⟨g, 0, none⟩)] w fun e w' => e = .returned (.int .i64 ((z0W s.data.toList p bad).1 : Int)) ∧ Fld w' g s (z0W s.data.toList p bad).2.1 (z0W s.data.toList p bad).2.2 ∧ Only g w w' := by
 have c0 := hF.c0
 have c1 := hF.c1
 have c2 := hF.c2
 have f1 : w.frozen? ⟨g, 1, none⟩ = false := Box.free hF 1
 have f2 : w.frozen? ⟨g, 2, none⟩ = false := Box.free hF 2
 have HF := Lib.hid hF
 clear hF
 rcases hr : z0B s.data.toList p with _ | ⟨n, q⟩
 ·have hfin : z0W s.data.toList p bad = (0, p, true) := by rw [z0W, hr]
  have HR := Lib.hid hr
  have HN := Lib.hid hfin
  clear hr hfin
  go_enter Tryz.func42, Tryz.ntmps42
  go_wp2
  go_quiet ((go_at_call 115; exact z8Z (z5Y _ hs hp HR.out)))
  go_wp2
  go_ret
  rw [HN.out]
  exact ⟨rfl, Box.set (HF.out.drewN _) 2 _, ((Only.refl g w).drewN _).set (.inl rfl) _⟩
 ·have hfin : z0W s.data.toList p bad = (n, q, bad) := by rw [z0W, hr]
  have HR := Lib.hid hr
  have HN := Lib.hid hfin
  clear hr hfin
  go_enter Tryz.func42, Tryz.ntmps42
  go_wp2
  go_quiet ((go_at_call 115; exact z8Z (z2Y _ hs hp HR.out)))
  go_wp2
  go_ret
  rw [HN.out]
  exact ⟨rfl, Box.set (HF.out.drewN _) 1 _, ((Only.refl g w).drewN _).set (.inl rfl) _⟩
theorem zey (g : Nat) (s : ByteArray) (p : Nat) (bad : Bool) (w : World) (hs : (s.size : Int) ≤ 1000000000) (hp : p ≤ s.size) (hF : Fld w g s p bad) :
 Calls Tryz.prog 43 #[.pointer (some ⟨g, 0, none⟩)] w fun e w' => e = .returned (.string (bs (z0F s.data.toList p bad).1)) ∧ Fld w' g s (z0F s.data.toList p bad).2.1 (z0F s.data.toList p bad).2.2 ∧ Only g w w' := by
 have c0 := hF.c0
 have c1 := hF.c1
 have c2 := hF.c2
 have f1 : w.frozen? ⟨g, 1, none⟩ = false := Box.free hF 1
 have f2 : w.frozen? ⟨g, 2, none⟩ = false := Box.free hF 2
 have HF := Lib.hid hF
 clear hF
 rcases hr : z0s s.data.toList p with _ | ⟨l, q⟩
 ·have hfin : z0F s.data.toList p bad = ([], p, true) := by rw [z0F, hr]
  have HR := Lib.hid hr
  have HN := Lib.hid hfin
  clear hr hfin
  go_enter Tryz.func43, Tryz.ntmps43
  go_wp2
  go_quiet ((go_at_call 116; exact z8Z (z7Q _ hs hp HR.out)))
  go_wp2
  go_ret
  rw [HN.out]
  exact ⟨rfl, Box.set (HF.out.drewN _) 2 _, ((Only.refl g w).drewN _).set (.inl rfl) _⟩
 ·have hfin : z0F s.data.toList p bad = (l, q, bad) := by rw [z0F, hr]
  have HR := Lib.hid hr
  have HN := Lib.hid hfin
  clear hr hfin
  go_enter Tryz.func43, Tryz.ntmps43
  go_wp2
  go_quiet ((go_at_call 116; exact z8Z (z7R _ hs hp HR.out)))
  go_wp2
  go_ret
  rw [HN.out]
  exact ⟨rfl, Box.set (HF.out.drewN _) 1 _, ((Only.refl g w).drewN _).set (.inl rfl) _⟩
theorem zgn (g : Nat) (s : ByteArray) (p : Nat) (bad : Bool) (w : World) (hs : (s.size : Int) ≤ 1000000000) (hp : p ≤ s.size) (hF : Fld w g s p bad) :
 Calls Tryz.prog 47 #[.pointer (some ⟨g, 0, none⟩)] w fun e w' => e = .returned (.bool (z19 bad p s.size)) ∧ ∃ n, w' = w.drewN n := by
 have c0 := hF.c0
 have c1 := hF.c1
 have c2 := hF.c2
 clear hF
 cases bad
 ·by_cases h : p = s.size
  ·have h1 : ((p : Int) == (s.size : Int)) = true := by simp [h]
   have h2 : z19 false p s.size = true := by simp [z19, h]
   have H2 := Lib.hid h2
   clear h h2
   go_enter Tryz.func47, Tryz.ntmps47
   go_wp2
   go_quiet (fail)
   go_wp2
   go_ret
   exact ⟨by rw [H2.out]; rfl, _, rfl⟩
  ·have h1 : ((p : Int) == (s.size : Int)) = false := by simp; omega
   have h2 : z19 false p s.size = false := by simp [z19, h]
   have H2 := Lib.hid h2
   clear h h2
   go_enter Tryz.func47, Tryz.ntmps47
   go_wp2
   go_quiet (fail)
   go_wp2
   go_ret
   exact ⟨by rw [H2.out]; rfl, _, rfl⟩
 ·go_enter Tryz.func47, Tryz.ntmps47
  go_wp2
  go_quiet (fail)
  go_wp2
  go_ret
  exact ⟨rfl, _, rfl⟩
section
variable {g : Nat} {s : ByteArray} {p q n : Nat} {bad b : Bool} {l : Bs} {w : World} (hs : (s.size : Int) ≤ 1000000000) (hp : p ≤ s.size)
include hs hp
theorem zbR (h : z0W s.data.toList p bad = (n, q, b)) (hF : Fld w g s p bad) :
 Calls Tryz.prog 42 #[.pointer (some ⟨g, 0, none⟩)] w fun e w' => e = .returned (.int .i64 (n : Int)) ∧ Fld w' g s q b ∧ Only g w w' := by
 have := ziC g s p bad w hs hp hF
 rw [h] at this; exact this
theorem z39 (h : z0F s.data.toList p bad = (l, q, b)) (hF : Fld w g s p bad) :
 Calls Tryz.prog 43 #[.pointer (some ⟨g, 0, none⟩)] w fun e w' => e = .returned (.string (bs l)) ∧ Fld w' g s q b ∧ Only g w w' := by
 have := zey g s p bad w hs hp hF
 rw [h] at this; exact this
theorem z98 {d : Bool} (h : z19 bad p s.size = d) (hF : Fld w g s p bad) :
 Calls Tryz.prog 47 #[.pointer (some ⟨g, 0, none⟩)] w fun e w' => e = .returned (.bool d) ∧ ∃ n, w' = w.drewN n := by
 have := zgn g s p bad w hs hp hF
 rw [h] at this; exact this
end
theorem Fld.new {w : World} {g : Nat} {s : ByteArray} (h : g = w.heap.size) : Fld (w.alloc (.cells #[.string s, .int .i64 0, .bool false] 88)) g s 0 false := by subst h; exact Box.new w _ _
end Go.Proofs.YtnhcfmmdaihneaaGreatDoor
namespace Go.Proofs.YtnhcfmmdaihneaaGreatDoor
set_option maxRecDepth 100000
set_option maxHeartbeats 400000
set_option linter.unusedVariables false
set_option linter.unusedSimpArgs false
set_option linter.unusedSectionVars false
open Go.RowKit Pl
def Cur (w : World) (g : Nat) (s : ByteArray) (p : Nat) (bad : Bool) : Prop := Box w g 77 #[.string s, .int .i64 (p : Int), .bool bad]
theorem Cur.c0 {w : World} {g : Nat} {s : ByteArray} {p : Nat} {bad : Bool} (h : Cur w g s p bad) : w.cell? ⟨g, 0, none⟩ = some (.string s) := Box.cell h 0
theorem Cur.c1 {w : World} {g : Nat} {s : ByteArray} {p : Nat} {bad : Bool} (h : Cur w g s p bad) : w.cell? ⟨g, 1, none⟩ = some (.int .i64 (p : Int)) := Box.cell h 1
theorem Cur.c2 {w : World} {g : Nat} {s : ByteArray} {p : Nat} {bad : Bool} (h : Cur w g s p bad) : w.cell? ⟨g, 2, none⟩ = some (.bool bad) := Box.cell h 2
theorem ziD (g : Nat) (s : ByteArray) (p : Nat) (bad : Bool) (w : World) (hs : (s.size : Int) ≤ 1000000000) (hp : p ≤ s.size) (hF : Cur w g s p bad) :
 Calls Tryz.prog 36 #[.pointer (some ⟨g, 0, none⟩)] w fun e w' => e = .returned (.int .i64 ((numS s.data.toList p bad).1 : Int)) ∧ Cur w' g s (numS s.data.toList p bad).2.1 (numS s.data.toList p bad).2.2 ∧ Only g w w' := by
 have hg := Box.lt hF
 have c0 := hF.c0
 have c1 := hF.c1
 have c2 := hF.c2
 have f1 : w.frozen? ⟨g, 1, none⟩ = false := Box.free hF 1
 have f2 : w.frozen? ⟨g, 2, none⟩ = false := Box.free hF 2
 have HF := Lib.hid hF
 clear hF
 rcases hr : z0B s.data.toList p with _ | ⟨n, q⟩
 ·have hfin : numS s.data.toList p bad = (0, p, true) := by rw [numS, z0W, hr]; simp
  have HR := Lib.hid hr
  have HN := Lib.hid hfin
  clear hr hfin
  cases bad
  ·skip
   go_enter Tryz.func36, Tryz.ntmps36
   go_wp2
   go_region_held3 (fun W => W.cell? ⟨g, 0, none⟩ = some (.string s) ∧ W.cell? ⟨g, 1, none⟩ = some (.int .i64 (p : Int))) (first | exact ⟨c0, c1⟩ | exact ⟨(hb1.cell hg).trans c0, (hb1.cell hg).trans c1⟩) (first | (go_at_call 108; refine (z3l _ hs hp HR.out).mono ?_; rintro e w1 ⟨rfl, hb1⟩) | fail)
   have hB : Below w.heap.size w w1 := (Below.refl _ w).drew.trans hb1
   have hF1 : Cur w1 g s p false := Box.below HF.out hB hg
   have d2 := hF1.c2
   have e1 : w1.frozen? ⟨g, 1, none⟩ = false := Box.free hF1 1
   have e2 : w1.frozen? ⟨g, 2, none⟩ = false := Box.free hF1 2
   have d1 := hF1.c1
   have H1 := Lib.hid hF1
   clear hF1 c0 c1 c2 f1 f2
   go_wp2
   go_ret
   rw [HN.out]
   exact ⟨rfl, H1.out.set 2 _, (Only.of_below hB g).set (.inl rfl) _⟩
  ·skip
   go_enter Tryz.func36, Tryz.ntmps36
   go_wp2
   go_region_held3 (fun W => W.cell? ⟨g, 0, none⟩ = some (.string s) ∧ W.cell? ⟨g, 1, none⟩ = some (.int .i64 (p : Int))) (first | exact ⟨c0, c1⟩ | exact ⟨(hb1.cell hg).trans c0, (hb1.cell hg).trans c1⟩) (first | (go_at_call 108; refine (z3l _ hs hp HR.out).mono ?_; rintro e w1 ⟨rfl, hb1⟩) | fail)
   have hB : Below w.heap.size w w1 := (Below.refl _ w).drew.trans hb1
   have hF1 : Cur w1 g s p true := Box.below HF.out hB hg
   have d2 := hF1.c2
   have e1 : w1.frozen? ⟨g, 1, none⟩ = false := Box.free hF1 1
   have e2 : w1.frozen? ⟨g, 2, none⟩ = false := Box.free hF1 2
   have d1 := hF1.c1
   have H1 := Lib.hid hF1
   clear hF1 c0 c1 c2 f1 f2
   go_wp2
   go_ret
   rw [HN.out]
   exact ⟨rfl, H1.out.set 2 _, (Only.of_below hB g).set (.inl rfl) _⟩
 ·cases bad
  ·have hfin : numS s.data.toList p false = (n, q, false) := by rw [numS, z0W, hr]; simp
   have HR := Lib.hid hr
   have HN := Lib.hid hfin
   clear hr hfin
   go_enter Tryz.func36, Tryz.ntmps36
   go_wp2
   go_region_held3 (fun W => W.cell? ⟨g, 0, none⟩ = some (.string s) ∧ W.cell? ⟨g, 1, none⟩ = some (.int .i64 (p : Int))) (first | exact ⟨c0, c1⟩ | exact ⟨(hb1.cell hg).trans c0, (hb1.cell hg).trans c1⟩) (first | (go_at_call 108; refine (z1V _ hs hp HR.out).mono ?_; rintro e w1 ⟨rfl, hb1⟩) | fail)
   have hB : Below w.heap.size w w1 := (Below.refl _ w).drew.trans hb1
   have hF1 : Cur w1 g s p false := Box.below HF.out hB hg
   have d2 := hF1.c2
   have e1 : w1.frozen? ⟨g, 1, none⟩ = false := Box.free hF1 1
   have e2 : w1.frozen? ⟨g, 2, none⟩ = false := Box.free hF1 2
   have d1 := hF1.c1
   have H1 := Lib.hid hF1
   clear hF1 c0 c1 c2 f1 f2
   go_wp2
   go_ret
   rw [HN.out]
   exact ⟨rfl, H1.out.set 1 _, (Only.of_below hB g).set (.inl rfl) _⟩
  ·have hfin : numS s.data.toList p true = (0, p, true) := by rw [numS]; simp
   have HR := Lib.hid hr
   have HN := Lib.hid hfin
   clear hr hfin
   go_enter Tryz.func36, Tryz.ntmps36
   go_wp2
   go_region_held3 (fun W => W.cell? ⟨g, 0, none⟩ = some (.string s) ∧ W.cell? ⟨g, 1, none⟩ = some (.int .i64 (p : Int))) (first | exact ⟨c0, c1⟩ | exact ⟨(hb1.cell hg).trans c0, (hb1.cell hg).trans c1⟩) (first | (go_at_call 108; refine (z1V _ hs hp HR.out).mono ?_; rintro e w1 ⟨rfl, hb1⟩) | fail)
   have hB : Below w.heap.size w w1 := (Below.refl _ w).drew.trans hb1
   have hF1 : Cur w1 g s p true := Box.below HF.out hB hg
   have d2 := hF1.c2
   have e1 : w1.frozen? ⟨g, 1, none⟩ = false := Box.free hF1 1
   have e2 : w1.frozen? ⟨g, 2, none⟩ = false := Box.free hF1 2
   have d1 := hF1.c1
   have H1 := Lib.hid hF1
   clear hF1 c0 c1 c2 f1 f2
   go_wp2
   go_ret
   rw [HN.out]
   exact ⟨rfl, H1.out.set 2 _, (Only.of_below hB g).set (.inl rfl) _⟩
theorem zez (g : Nat) (s : ByteArray) (p : Nat) (bad : Bool) (w : World) (hs : (s.size : Int) ≤ 1000000000) (hp : p ≤ s.size) (hF : Cur w g s p bad) :
 Calls Tryz.prog 37 #[.pointer (some ⟨g, 0, none⟩)] w fun e w' => e = .returned (.string (bs (z1m s.data.toList p bad).1)) ∧ Cur w' g s (z1m s.data.toList p bad).2.1 (z1m s.data.toList p bad).2.2 ∧ Only g w w' := by
 have hg := Box.lt hF
 have c0 := hF.c0
 have c1 := hF.c1
 have c2 := hF.c2
 have f1 : w.frozen? ⟨g, 1, none⟩ = false := Box.free hF 1
 have f2 : w.frozen? ⟨g, 2, none⟩ = false := Box.free hF 2
 have HF := Lib.hid hF
 clear hF
 rcases hr : z0s s.data.toList p with _ | ⟨n, q⟩
 ·have hfin : z1m s.data.toList p bad = ([], p, true) := by rw [z1m, z0F, hr]; simp
  have HR := Lib.hid hr
  have HN := Lib.hid hfin
  clear hr hfin
  cases bad
  ·skip
   go_enter Tryz.func37, Tryz.ntmps37
   go_wp2
   go_region_held3 (fun W => W.cell? ⟨g, 0, none⟩ = some (.string s) ∧ W.cell? ⟨g, 1, none⟩ = some (.int .i64 (p : Int))) (first | exact ⟨c0, c1⟩ | exact ⟨(hb1.cell hg).trans c0, (hb1.cell hg).trans c1⟩) (first | (go_at_call 109; refine (z3P _ hs hp HR.out).mono ?_; rintro e w1 ⟨rfl, hb1⟩) | fail)
   have hB : Below w.heap.size w w1 := (Below.refl _ w).drew.trans hb1
   have hF1 : Cur w1 g s p false := Box.below HF.out hB hg
   have d2 := hF1.c2
   have e1 : w1.frozen? ⟨g, 1, none⟩ = false := Box.free hF1 1
   have e2 : w1.frozen? ⟨g, 2, none⟩ = false := Box.free hF1 2
   have d1 := hF1.c1
   have H1 := Lib.hid hF1
   clear hF1 c0 c1 c2 f1 f2
   go_wp2
   go_ret
   rw [HN.out]
   exact ⟨rfl, H1.out.set 2 _, (Only.of_below hB g).set (.inl rfl) _⟩
  ·skip
   go_enter Tryz.func37, Tryz.ntmps37
   go_wp2
   go_region_held3 (fun W => W.cell? ⟨g, 0, none⟩ = some (.string s) ∧ W.cell? ⟨g, 1, none⟩ = some (.int .i64 (p : Int))) (first | exact ⟨c0, c1⟩ | exact ⟨(hb1.cell hg).trans c0, (hb1.cell hg).trans c1⟩) (first | (go_at_call 109; refine (z3P _ hs hp HR.out).mono ?_; rintro e w1 ⟨rfl, hb1⟩) | fail)
   have hB : Below w.heap.size w w1 := (Below.refl _ w).drew.trans hb1
   have hF1 : Cur w1 g s p true := Box.below HF.out hB hg
   have d2 := hF1.c2
   have e1 : w1.frozen? ⟨g, 1, none⟩ = false := Box.free hF1 1
   have e2 : w1.frozen? ⟨g, 2, none⟩ = false := Box.free hF1 2
   have d1 := hF1.c1
   have H1 := Lib.hid hF1
   clear hF1 c0 c1 c2 f1 f2
   go_wp2
   go_ret
   rw [HN.out]
   exact ⟨rfl, H1.out.set 2 _, (Only.of_below hB g).set (.inl rfl) _⟩
 ·cases bad
  ·have hfin : z1m s.data.toList p false = (n, q, false) := by rw [z1m, z0F, hr]; simp
   have HR := Lib.hid hr
   have HN := Lib.hid hfin
   clear hr hfin
   go_enter Tryz.func37, Tryz.ntmps37
   go_wp2
   go_region_held3 (fun W => W.cell? ⟨g, 0, none⟩ = some (.string s) ∧ W.cell? ⟨g, 1, none⟩ = some (.int .i64 (p : Int))) (first | exact ⟨c0, c1⟩ | exact ⟨(hb1.cell hg).trans c0, (hb1.cell hg).trans c1⟩) (first | (go_at_call 109; refine (z3Q _ hs hp HR.out).mono ?_; rintro e w1 ⟨rfl, hb1⟩) | fail)
   have hB : Below w.heap.size w w1 := (Below.refl _ w).drew.trans hb1
   have hF1 : Cur w1 g s p false := Box.below HF.out hB hg
   have d2 := hF1.c2
   have e1 : w1.frozen? ⟨g, 1, none⟩ = false := Box.free hF1 1
   have e2 : w1.frozen? ⟨g, 2, none⟩ = false := Box.free hF1 2
   have d1 := hF1.c1
   have H1 := Lib.hid hF1
   clear hF1 c0 c1 c2 f1 f2
   go_wp2
   go_ret
   rw [HN.out]
   exact ⟨rfl, H1.out.set 1 _, (Only.of_below hB g).set (.inl rfl) _⟩
  ·have hfin : z1m s.data.toList p true = ([], p, true) := by rw [z1m]; simp
   have HR := Lib.hid hr
   have HN := Lib.hid hfin
   clear hr hfin
   go_enter Tryz.func37, Tryz.ntmps37
   go_wp2
   go_region_held3 (fun W => W.cell? ⟨g, 0, none⟩ = some (.string s) ∧ W.cell? ⟨g, 1, none⟩ = some (.int .i64 (p : Int))) (first | exact ⟨c0, c1⟩ | exact ⟨(hb1.cell hg).trans c0, (hb1.cell hg).trans c1⟩) (first | (go_at_call 109; refine (z3Q _ hs hp HR.out).mono ?_; rintro e w1 ⟨rfl, hb1⟩) | fail)
   have hB : Below w.heap.size w w1 := (Below.refl _ w).drew.trans hb1
   have hF1 : Cur w1 g s p true := Box.below HF.out hB hg
   have d2 := hF1.c2
   have e1 : w1.frozen? ⟨g, 1, none⟩ = false := Box.free hF1 1
   have e2 : w1.frozen? ⟨g, 2, none⟩ = false := Box.free hF1 2
   have d1 := hF1.c1
   have H1 := Lib.hid hF1
   clear hF1 c0 c1 c2 f1 f2
   go_wp2
   go_ret
   rw [HN.out]
   exact ⟨rfl, H1.out.set 2 _, (Only.of_below hB g).set (.inl rfl) _⟩
section
variable {g : Nat} {s : ByteArray} {p q n : Nat} {z : Int} {bad b : Bool} {l : Bs} {w : World} (hs : (s.size : Int) ≤ 1000000000) (hp : p ≤ s.size)
include hs hp
theorem zkF (h : numS s.data.toList p bad = (n, q, b)) (hF : Cur w g s p bad) :
 Calls Tryz.prog 36 #[.pointer (some ⟨g, 0, none⟩)] w fun e w' => e = .returned (.int .i64 (n : Int)) ∧ Cur w' g s q b ∧ Only g w w' := by
 have := ziD g s p bad w hs hp hF
 rw [h] at this; exact this
theorem zao (h : z1m s.data.toList p bad = (l, q, b)) (hF : Cur w g s p bad) :
 Calls Tryz.prog 37 #[.pointer (some ⟨g, 0, none⟩)] w fun e w' => e = .returned (.string (bs l)) ∧ Cur w' g s q b ∧ Only g w w' := by
 have := zez g s p bad w hs hp hF
 rw [h] at this; exact this
end
theorem Cur.new {w : World} {g : Nat} {s : ByteArray} {b : Bool} (h : g = w.heap.size) : Cur (w.alloc (.cells #[.string s, .int .i64 0, .bool b] 77)) g s 0 b := by subst h; exact Box.new w _ _
end Go.Proofs.YtnhcfmmdaihneaaGreatDoor
namespace Go.Proofs.YtnhcfmmdaihneaaGreatDoor
set_option maxRecDepth 100000
set_option maxHeartbeats 800000
set_option linter.unusedVariables false
set_option linter.unusedSimpArgs false
set_option linter.unusedSectionVars false
open Go.RowKit Pl
def z0M (t : Bs) : Option (Nat × Bs × Bs) :=
 let (a, p1, b1) := z0W t 0 false
 let (n, p2, b2) := z0F t p1 b1
 let (v, p3, b3) := z0F t p2 b2
 if z19 b3 p3 t.length && z0z a n v then some (a, n, v) else none
def zkG : Option (Nat × Bs × Bs) → Value
 | none => .tuple #[.agg #[.int .i64 0, .string (bs []), .string (bs [])], .bool false]
 | some (a, n, v) => .tuple #[.agg #[.int .i64 (a : Int), .string (bs n), .string (bs v)], .bool true]
theorem z7T (s : ByteArray) (w : World) (hs : (s.size : Int) ≤ 1000000000) :
 Calls Tryz.prog 206 #[.string s] w fun e w' => e = .returned (zkG (z0M s.data.toList)) ∧ Below w.heap.size w w' := by
 rcases hA : z0W s.data.toList 0 false with ⟨a, p1, b1⟩
 have hp1 := (z2d (t := s.data.toList) (p := 0) (bad := false) (by omega))
 rw [hA, z0u] at hp1
 rcases hN : z0F s.data.toList p1 b1 with ⟨n, p2, b2⟩
 have hp2 := (z33 (t := s.data.toList) (p := p1) (bad := b1) (by rw [z0u]; exact hp1.1))
 rw [hN, z0u] at hp2
 rcases hV : z0F s.data.toList p2 b2 with ⟨v, p3, b3⟩
 have hp3 := (z33 (t := s.data.toList) (p := p2) (bad := b2) (by rw [z0u]; exact hp2.1))
 rw [hV, z0u] at hp3
 simp only at hp1 hp2 hp3
 obtain ⟨hp1, ha⟩ := hp1
 obtain ⟨hp2, hn⟩ := hp2
 obtain ⟨hp3, hv⟩ := hp3
 have hnz : ((bs n).size : Int) ≤ 1000000000 := by rw [z0R]; omega
 have hvz : ((bs v).size : Int) ≤ 1000000000 := by rw [z0R]; omega
 cases hd : z19 b3 p3 s.size
 ·have hfin : z0M s.data.toList = none := by
   simp only [z0M, hA, hN, hV, z0u, hd]; rfl
  have HA := Lib.hid hA
  have HN := Lib.hid hN
  have HV := Lib.hid hV
  have HD := Lib.hid hd
  have HF := Lib.hid hfin
  clear hA hN hV hd hfin
  go_enter Tryz.func206, Tryz.ntmps206
  go_wp2_with (fail)
  refine (zbR hs (by omega) HA.out (Fld.new (by simp))).mono ?_
  rintro e w1 ⟨rfl, hF1, hO1⟩
  go_wp2_with (fail)
  refine (z39 hs hp1 HN.out hF1).mono ?_
  rintro e w2 ⟨rfl, hF2, hO2⟩
  go_wp2_with (fail)
  refine (z39 hs hp2 HV.out hF2).mono ?_
  rintro e w3 ⟨rfl, hF3, hO3⟩
  have hB3 := ((((Box.new w _ _).alloc _).only hO1 (by omega)).only hO2 (by omega)).only hO3 (by omega)
  have hb3 : Below w.heap.size w w3 := (((Below.refl _ w).alloc (Nat.le_refl _) _).alloc (by simp) _).trans ((hO1.below (by omega) (by simp; omega)).trans ((hO2.trans hO3).below (by omega) (by have := Box.lt hF1; omega)))
  have d0 : w3.cell? ⟨w.heap.size, 0, none⟩ = some (.int .i64 0) := hB3.cell 0
  have d1 : w3.cell? ⟨w.heap.size, 1, none⟩ = some (.string ⟨#[]⟩) := hB3.cell 1
  have d2 : w3.cell? ⟨w.heap.size, 2, none⟩ = some (.string ⟨#[]⟩) := hB3.cell 2
  have e0 := hB3.free 0
  have e1 := hB3.free 1
  have e2 := hB3.free 2
  have hz : w.heap.size + 1 < w3.heap.size := Box.lt hF3
  have hz0 : w.heap.size < w3.heap.size := by omega
  have hz1 : w.heap.size ≠ w3.heap.size := by omega
  have HB := Lib.hid hB3
  clear hB3
  go_wp2_with (fail)
  refine (z98 hs hp3 HD.out (hF3.alloc _)).mono ?_
  rintro e w4 ⟨rfl, nd, rfl⟩
  go_wp2
  refine bodyPost_ret (v := .tuple #[.agg #[.int .i64 0, .string ⟨#[]⟩, .string ⟨#[]⟩], .bool false]) ?_ rfl ⟨by rw [HF.out]; rfl, ?_⟩
  ·simp [results, Tryz.results206, go_sem, d0, d1, d2, hz0]
  ·exact (((z3k (hb3.alloc (by omega) _) nd).setCell (Nat.le_refl _) _).setCell (Nat.le_refl _) _).setCell (Nat.le_refl _) _
 ·cases ho : z0z a n v
  ·have hfin : z0M s.data.toList = none := by
    simp only [z0M, hA, hN, hV, z0u, hd, ho]; rfl
   have hoc := fun W => z64 (a : Int) (bs n) (bs v) W hnz hvz
   simp only [z0V, ho] at hoc
   have HA := Lib.hid hA
   have HN := Lib.hid hN
   have HV := Lib.hid hV
   have HD := Lib.hid hd
   have HF := Lib.hid hfin
   have HO := Lib.hid ho
   have HC := Lib.hid hoc
   clear hA hN hV hd hfin ho hoc
   go_enter Tryz.func206, Tryz.ntmps206
   go_wp2_with (fail)
   refine (zbR hs (by omega) HA.out (Fld.new (by simp))).mono ?_
   rintro e w1 ⟨rfl, hF1, hO1⟩
   go_wp2_with (fail)
   refine (z39 hs hp1 HN.out hF1).mono ?_
   rintro e w2 ⟨rfl, hF2, hO2⟩
   go_wp2_with (fail)
   refine (z39 hs hp2 HV.out hF2).mono ?_
   rintro e w3 ⟨rfl, hF3, hO3⟩
   have hB3 := ((((Box.new w _ _).alloc _).only hO1 (by omega)).only hO2 (by omega)).only hO3 (by omega)
   have hb3 : Below w.heap.size w w3 := (((Below.refl _ w).alloc (Nat.le_refl _) _).alloc (by simp) _).trans ((hO1.below (by omega) (by simp; omega)).trans ((hO2.trans hO3).below (by omega) (by have := Box.lt hF1; omega)))
   have d0 : w3.cell? ⟨w.heap.size, 0, none⟩ = some (.int .i64 0) := hB3.cell 0
   have d1 : w3.cell? ⟨w.heap.size, 1, none⟩ = some (.string ⟨#[]⟩) := hB3.cell 1
   have d2 : w3.cell? ⟨w.heap.size, 2, none⟩ = some (.string ⟨#[]⟩) := hB3.cell 2
   have e0 := hB3.free 0
   have e1 := hB3.free 1
   have e2 := hB3.free 2
   have hz : w.heap.size + 1 < w3.heap.size := Box.lt hF3
   have hz0 : w.heap.size < w3.heap.size := by omega
   have hz1 : w.heap.size ≠ w3.heap.size := by omega
   have HB := Lib.hid hB3
   clear hB3
   go_wp2_with (fail)
   refine (z98 hs hp3 HD.out (hF3.alloc _)).mono ?_
   rintro e w4 ⟨rfl, nd, rfl⟩
   go_wp2_with (fail)
   refine (HC.out _).mono ?_
   rintro e w5 ⟨rfl, hb5⟩
   have hs5 := hb5.size
   simp only [World.heap_drewN, World.size_alloc] at hs5
   have h5 : ∀ i, w5.cell? ⟨w.heap.size, i, none⟩ = w3.cell? ⟨w.heap.size, i, none⟩ := fun i => (hb5.cell (p := ⟨w.heap.size, i, none⟩) (by simp; omega)).trans (World.cell?_alloc_lt w3 _ _ hz0)
   have g5 : ∀ i, w5.frozen? ⟨w.heap.size, i, none⟩ = false := fun i => (hb5.frozen (p := ⟨w.heap.size, i, none⟩) (by simp; omega)).trans (((HB.out.alloc _).drewN nd).free i)
   have k0 := (h5 0).trans d0
   have k1 := (h5 1).trans d1
   have k2 := (h5 2).trans d2
   have m0 := g5 0
   have m1 := g5 1
   have m2 := g5 2
   clear h5 g5
   go_wp2
   refine bodyPost_ret (v := .tuple #[.agg #[.int .i64 0, .string ⟨#[]⟩, .string ⟨#[]⟩], .bool false]) ?_ rfl ⟨by rw [HF.out]; rfl, ?_⟩
   ·simp [results, Tryz.results206, go_sem, k0, k1, k2]
   ·exact ((((z3k (hb3.alloc (by omega) _) nd).trans (hb5.mono (by simp; omega))).setCell (Nat.le_refl _) _).setCell (Nat.le_refl _) _).setCell (Nat.le_refl _) _
  ·have hfin : z0M s.data.toList = some (a, n, v) := by
    simp only [z0M, hA, hN, hV, z0u, hd, ho]; rfl
   have hoc := fun W => z64 (a : Int) (bs n) (bs v) W hnz hvz
   simp only [z0V, ho] at hoc
   have HA := Lib.hid hA
   have HN := Lib.hid hN
   have HV := Lib.hid hV
   have HD := Lib.hid hd
   have HF := Lib.hid hfin
   have HO := Lib.hid ho
   have HC := Lib.hid hoc
   clear hA hN hV hd hfin ho hoc
   go_enter Tryz.func206, Tryz.ntmps206
   go_wp2_with (fail)
   refine (zbR hs (by omega) HA.out (Fld.new (by simp))).mono ?_
   rintro e w1 ⟨rfl, hF1, hO1⟩
   go_wp2_with (fail)
   refine (z39 hs hp1 HN.out hF1).mono ?_
   rintro e w2 ⟨rfl, hF2, hO2⟩
   go_wp2_with (fail)
   refine (z39 hs hp2 HV.out hF2).mono ?_
   rintro e w3 ⟨rfl, hF3, hO3⟩
   have hB3 := ((((Box.new w _ _).alloc _).only hO1 (by omega)).only hO2 (by omega)).only hO3 (by omega)
   have hb3 : Below w.heap.size w w3 := (((Below.refl _ w).alloc (Nat.le_refl _) _).alloc (by simp) _).trans ((hO1.below (by omega) (by simp; omega)).trans ((hO2.trans hO3).below (by omega) (by have := Box.lt hF1; omega)))
   have d0 : w3.cell? ⟨w.heap.size, 0, none⟩ = some (.int .i64 0) := hB3.cell 0
   have d1 : w3.cell? ⟨w.heap.size, 1, none⟩ = some (.string ⟨#[]⟩) := hB3.cell 1
   have d2 : w3.cell? ⟨w.heap.size, 2, none⟩ = some (.string ⟨#[]⟩) := hB3.cell 2
   have e0 := hB3.free 0
   have e1 := hB3.free 1
   have e2 := hB3.free 2
   have hz : w.heap.size + 1 < w3.heap.size := Box.lt hF3
   have hz0 : w.heap.size < w3.heap.size := by omega
   have hz1 : w.heap.size ≠ w3.heap.size := by omega
   have HB := Lib.hid hB3
   clear hB3
   go_wp2_with (fail)
   refine (z98 hs hp3 HD.out (hF3.alloc _)).mono ?_
   rintro e w4 ⟨rfl, nd, rfl⟩
   go_wp2_with (fail)
   refine (HC.out _).mono ?_
   rintro e w5 ⟨rfl, hb5⟩
   have hs5 := hb5.size
   simp only [World.heap_drewN, World.size_alloc] at hs5
   have h5 : ∀ i, w5.cell? ⟨w.heap.size, i, none⟩ = w3.cell? ⟨w.heap.size, i, none⟩ := fun i => (hb5.cell (p := ⟨w.heap.size, i, none⟩) (by simp; omega)).trans (World.cell?_alloc_lt w3 _ _ hz0)
   have g5 : ∀ i, w5.frozen? ⟨w.heap.size, i, none⟩ = false := fun i => (hb5.frozen (p := ⟨w.heap.size, i, none⟩) (by simp; omega)).trans (((HB.out.alloc _).drewN nd).free i)
   have k0 := (h5 0).trans d0
   have k1 := (h5 1).trans d1
   have k2 := (h5 2).trans d2
   have m0 := g5 0
   have m1 := g5 1
   have m2 := g5 2
   have hU : Box w5 w3.heap.size 226 #[.int .i64 (a : Int), .string (bs n), .string (bs v)] := ((Box.new w3 _ _).drewN nd).below hb5 (by simp)
   have u0 : w5.cell? ⟨w3.heap.size, 0, none⟩ = some (.int .i64 (a : Int)) := hU.cell 0
   have u1 : w5.cell? ⟨w3.heap.size, 1, none⟩ = some (.string (bs n)) := hU.cell 1
   have u2 : w5.cell? ⟨w3.heap.size, 2, none⟩ = some (.string (bs v)) := hU.cell 2
   clear h5 g5 hU
   go_wp2
   refine bodyPost_ret (v := .tuple #[.agg #[.int .i64 (a : Int), .string (bs n), .string (bs v)], .bool true]) ?_ rfl ⟨by rw [HF.out]; rfl, ?_⟩
   ·simp [results, Tryz.results206, go_sem, k0, k1, k2]
   ·exact ((((z3k (hb3.alloc (by omega) _) nd).trans (hb5.mono (by simp; omega))).setCell (Nat.le_refl _) _).setCell (Nat.le_refl _) _).setCell (Nat.le_refl _) _
def z1d (t : Bs) : Option (Nat × Bs × Bs) :=
 let (a, p1, b1) := numS t 0 false
 let (n, p2, b2) := z1m t p1 b1
 let (v, p3, b3) := z1m t p2 b2
 if b3 = false ∧ z0z a n v = true ∧ z18 a n v = t then some (a, n, v) else none
theorem z7c (s : ByteArray) (w : World) (hs : (s.size : Int) ≤ 1000000000) :
 Calls Tryz.prog 201 #[.string s] w fun e w' => e = .returned (zkG (z1d s.data.toList)) ∧ Below w.heap.size w w' := by
 rcases hA : numS s.data.toList 0 false with ⟨a, p1, b1⟩
 have hp1 := (zg6 (t := s.data.toList) (p := 0) (bad := false) (by omega))
 rw [hA, z0u] at hp1
 rcases hN : z1m s.data.toList p1 b1 with ⟨n, p2, b2⟩
 have hp2 := (zad (t := s.data.toList) (p := p1) (bad := b1) (by rw [z0u]; exact hp1.1))
 rw [hN, z0u] at hp2
 rcases hV : z1m s.data.toList p2 b2 with ⟨v, p3, b3⟩
 have hp3 := (zad (t := s.data.toList) (p := p2) (bad := b2) (by rw [z0u]; exact hp2.1))
 rw [hV, z0u] at hp3
 simp only at hp1 hp2 hp3
 obtain ⟨hp1, ha⟩ := hp1
 obtain ⟨hp2, hn⟩ := hp2
 obtain ⟨hp3, hv⟩ := hp3
 have hnz : ((bs n).size : Int) ≤ 1000000000 := by rw [z0R]; omega
 have hvz : ((bs v).size : Int) ≤ 1000000000 := by rw [z0R]; omega
 have hdef : z1d s.data.toList = if b3 = false ∧ z0z a n v = true ∧ z18 a n v = s.data.toList then some (a, n, v) else none := by
  simp only [z1d, hA, hN, hV]
 have HA := Lib.hid hA
 have HN := Lib.hid hN
 have HV := Lib.hid hV
 have HD := Lib.hid hdef
 clear hA hN hV hdef
 go_enter Tryz.func201, Tryz.ntmps201
 go_wp2_with (fail)
 refine (zkF hs (by omega) HA.out (Cur.new (by simp))).mono ?_
 rintro e w1 ⟨rfl, hF1, hO1⟩
 have hR1 := ((Box.new w _ _).alloc _).only hO1 (by omega)
 have hb1 : Below w.heap.size w w1 := (((Below.refl _ w).alloc (Nat.le_refl _) _).alloc (by simp) _).trans (hO1.below (by omega) (by simp; omega))
 have hz1 : w.heap.size + 1 < w1.heap.size := Box.lt hF1
 have hz1' : w.heap.size < w1.heap.size := by omega
 go_wp2_with (fail)
 refine (zao hs hp1 HN.out (hF1.alloc _)).mono ?_
 rintro e w2 ⟨rfl, hF2, hO2⟩
 have hU2 := (Box.new w1 226 #[.int .i64 (a : Int), .string ⟨#[]⟩, .string ⟨#[]⟩]).only hO2 (by omega)
 have hR2 := (hR1.alloc (.cells #[.int .i64 (a : Int), .string ⟨#[]⟩, .string ⟨#[]⟩] 226)).only hO2 (by omega)
 have hb2 : Below w.heap.size w w2 := (hb1.alloc (by omega) _).trans (hO2.below (by omega) (by simp; omega))
 have x1 : w2.cell? ⟨w1.heap.size, 1, none⟩ = some (.string ⟨#[]⟩) := hU2.cell 1
 have y1 := hU2.free 1
 have hz2 : w1.heap.size < w2.heap.size := Box.lt hU2
 go_wp2_with (fail)
 refine (zao hs hp2 HV.out (hF2.far (by simp; omega) _)).mono ?_
 rintro e w3 ⟨rfl, hF3, hO3⟩
 have hU3 := (hU2.set 1 (.string (bs n))).only hO3 (by omega)
 have hR3 := (hR2.far (p := ⟨w1.heap.size, 1, none⟩) (by simp; omega) (.string (bs n))).only hO3 (by omega)
 have hb3 : Below w.heap.size w w3 := (hb2.setCell (p := ⟨w1.heap.size, 1, none⟩) (by simp; omega) (.string (bs n))).trans (hO3.below (by omega) (by simp [World.setCell]; omega))
 have x2 : w3.cell? ⟨w1.heap.size, 2, none⟩ = some (.string ⟨#[]⟩) := hU3.cell 2
 have x1' : w3.cell? ⟨w1.heap.size, 1, none⟩ = some (.string (bs n)) := hU3.cell 1
 have x0 : w3.cell? ⟨w1.heap.size, 0, none⟩ = some (.int .i64 (a : Int)) := hU3.cell 0
 have y2 := hU3.free 2
 have hz3 : w1.heap.size < w3.heap.size := Box.lt hU3
 have hU4 := hU3.set 2 (.string (bs v))
 have hR4 := hR3.far (p := ⟨w1.heap.size, 2, none⟩) (by simp; omega) (.string (bs v))
 have hF4 := hF3.far (p := ⟨w1.heap.size, 2, none⟩) (by simp; omega) (.string (bs v))
 have hb4 := hb3.setCell (p := ⟨w1.heap.size, 2, none⟩) (by simp; omega) (.string (bs v))
 have hz4 : w1.heap.size < (w3.setCell ⟨w1.heap.size, 2, none⟩ (.string (bs v))).heap.size := Box.lt hU4
 cases ho : z0z a n v
 ·have hfin : z1d s.data.toList = none := by rw [HD.out, if_neg (by rw [ho]; simp)]
  have hc := fun W => z7S (a : Int) (bs n) (bs v) W hnz hvz (by rw [z0V, z0V]; exact ho)
  have HO := Lib.hid ho
  have HF := Lib.hid hfin
  have HC := Lib.hid hc
  clear ho hfin hc
  go_wp2_with (fail)
  refine (HC.out _).mono ?_
  rintro e w5 ⟨rfl, hb5⟩
  have hR5 := hR4.below hb5 (by omega)
  have hC5 := hF4.below hb5 (by omega)
  have d2 : w5.cell? ⟨w.heap.size + 1, 2, none⟩ = some (.bool b3) := hC5.cell 2
  have k0 : w5.cell? ⟨w.heap.size, 0, none⟩ = some (.int .i64 0) := hR5.cell 0
  have k1 : w5.cell? ⟨w.heap.size, 1, none⟩ = some (.string ⟨#[]⟩) := hR5.cell 1
  have k2 : w5.cell? ⟨w.heap.size, 2, none⟩ = some (.string ⟨#[]⟩) := hR5.cell 2
  have m0 := hR5.free 0
  have m1 := hR5.free 1
  have m2 := hR5.free 2
  have hB5 := hb4.trans (hb5.mono (by omega))
  clear hR5 hC5 hR4 hF4 hU4 x1 y1 x2 x1' x0 y2
  cases b3
  all_goals
   go_wp2
   refine bodyPost_ret (v := .tuple #[.agg #[.int .i64 0, .string ⟨#[]⟩, .string ⟨#[]⟩], .bool false]) ?_ rfl ⟨by rw [HF.out]; rfl, ?_⟩
   ·simp [results, Tryz.results201, go_sem, k0, k1, k2]
   ·exact ((hB5.setCell (Nat.le_refl _) _).setCell (Nat.le_refl _) _).setCell (Nat.le_refl _) _
 ·have hc := fun W => z7b a (bs n) (bs v) W hnz hvz (by rw [z0V, z0V]; exact ho)
  simp only [z0V] at hc
  have HO := Lib.hid ho
  have HC := Lib.hid hc
  clear ho hc
  go_wp2_with (fail)
  refine (HC.out _).mono ?_
  rintro e w5 ⟨rfl, hb5⟩
  have hR5 := hR4.below hb5 (by omega)
  have hU5 := hU4.below hb5 (by omega)
  have hC5 := hF4.below hb5 (by omega)
  have d2 : w5.cell? ⟨w.heap.size + 1, 2, none⟩ = some (.bool b3) := hC5.cell 2
  have k0 : w5.cell? ⟨w.heap.size, 0, none⟩ = some (.int .i64 0) := hR5.cell 0
  have k1 : w5.cell? ⟨w.heap.size, 1, none⟩ = some (.string ⟨#[]⟩) := hR5.cell 1
  have k2 : w5.cell? ⟨w.heap.size, 2, none⟩ = some (.string ⟨#[]⟩) := hR5.cell 2
  have m0 := hR5.free 0
  have m1 := hR5.free 1
  have m2 := hR5.free 2
  have u0 : w5.cell? ⟨w1.heap.size, 0, none⟩ = some (.int .i64 (a : Int)) := hU5.cell 0
  have u1 : w5.cell? ⟨w1.heap.size, 1, none⟩ = some (.string (bs n)) := hU5.cell 1
  have u2 : w5.cell? ⟨w1.heap.size, 2, none⟩ = some (.string (bs v)) := hU5.cell 2
  have hB5 := hb4.trans (hb5.mono (by omega))
  clear hR5 hC5 hR4 hF4 hU4 hU5 x1 y1 x2 x1' x0 y2
  cases b3
  ·by_cases heq : z18 a n v = s.data.toList
   ·have hfin : z1d s.data.toList = some (a, n, v) := by rw [HD.out, if_pos ⟨rfl, HO.out, heq⟩]
    have he : ((bs (z18 a n v)).toList == s.toList) = true := by rw [toList_data, toList_data, z0V, beq_iff_eq]; exact heq
    have HE := Lib.hid heq
    have HF := Lib.hid hfin
    clear heq hfin
    go_wp2
    refine bodyPost_ret (v := .tuple #[.agg #[.int .i64 (a : Int), .string (bs n), .string (bs v)], .bool true]) ?_ rfl ⟨by rw [HF.out]; rfl, ?_⟩
    ·simp [results, Tryz.results201, go_sem, k0, k1, k2]
    ·exact ((hB5.setCell (Nat.le_refl _) _).setCell (Nat.le_refl _) _).setCell (Nat.le_refl _) _
   ·have hfin : z1d s.data.toList = none := by rw [HD.out, if_neg (by rintro ⟨_, _, h⟩; exact heq h)]
    have he : ((bs (z18 a n v)).toList == s.toList) = false := by rw [toList_data, toList_data, z0V, beq_eq_false_iff_ne]; exact heq
    have HE := Lib.hid heq
    have HF := Lib.hid hfin
    clear heq hfin
    go_wp2
    refine bodyPost_ret (v := .tuple #[.agg #[.int .i64 0, .string ⟨#[]⟩, .string ⟨#[]⟩], .bool false]) ?_ rfl ⟨by rw [HF.out]; rfl, ?_⟩
    ·simp [results, Tryz.results201, go_sem, k0, k1, k2]
    ·exact ((hB5.setCell (Nat.le_refl _) _).setCell (Nat.le_refl _) _).setCell (Nat.le_refl _) _
  ·have hfin : z1d s.data.toList = none := by rw [HD.out, if_neg (by simp)]
   have HF := Lib.hid hfin
   clear hfin
   go_wp2
   refine bodyPost_ret (v := .tuple #[.agg #[.int .i64 0, .string ⟨#[]⟩, .string ⟨#[]⟩], .bool false]) ?_ rfl ⟨by rw [HF.out]; rfl, ?_⟩
   ·simp [results, Tryz.results201, go_sem, k0, k1, k2]
   ·exact ((hB5.setCell (Nat.le_refl _) _).setCell (Nat.le_refl _) _).setCell (Nat.le_refl _) _
end Go.Proofs.YtnhcfmmdaihneaaGreatDoor
namespace Go.Proofs.YtnhcfmmdaihneaaGreatDoor
set_option maxRecDepth 100000
set_option maxHeartbeats 800000
set_option linter.unusedVariables false
set_option linter.unusedSimpArgs false
set_option linter.unusedSectionVars false
open Go.RowKit Pl
theorem z7j {x : Nat} (hx : (x : Int) ≤ 4294967295) : (#[Value.int .u8 ((x : Int) / 16777216), .int .u8 ((x : Int) / 65536 % 256), .int .u8 ((x : Int) / 256 % 256), .int .u8 ((x : Int) % 256)]).toList = (z3n x).map bv := by
 simp [z3n, bv]; omega
theorem zbZ (x0 : Nat) (s : ByteArray) (w : World) (hs : (s.size : Int) ≤ 1000000000) (hx : (x0 : Int) ≤ 4294967295) :
 Calls Tryz.prog 270 #[.int .u32 (x0 : Int), .string s] w fun e w' => e = .returned (.int .u32 ((z2q x0 s.data.toList : Nat) : Int)) ∧ w = w' := by
 go_enter Tryz.func270, Tryz.ntmps270
 go_wp2
 go_loop [0, 5] (fun t i => ∃ k x : Nat, i = .int .i64 (k : Int) ∧ t = .int .u32 (x : Int) ∧ k ≤ s.size ∧ (x : Int) ≤ 4294967295 ∧ Hid (z2q x0 (s.data.toList.take k) = x)) (fun _ i => s.size - (intOf i).toNat)
 case atStart => exact ⟨0, x0, rfl, rfl, by omega, hx, Lib.hid (by simp [z2q])⟩
 case round =>
  obtain ⟨k, x, rfl, rfl, hk, hx1, HK⟩ := hrel
  by_cases hin : k < s.size
  ·have hnb := z5U s
   have hb1 := z9K s k
   obtain ⟨b, hb, ht⟩ := z60 s k hin
   have HB := Lib.hid hb
   have HT := Lib.hid ht
   clear hb ht
   go_wp2
   go_loop [0, 19] (fun t i => ∃ j y : Nat, i = .int .i64 (j : Int) ∧ t = .int .u32 (y : Int) ∧ j ≤ 8 ∧ (y : Int) ≤ 4294967295 ∧ Hid (z50 j (x ^^^ nb s k) = y)) (fun _ i => 8 - (intOf i).toNat)
   case atStart => exact ⟨0, x ^^^ nb s k, rfl, congrArg (Value.int .u32) (xr32 hx1 (by omega)), by omega, z8j hx1 (by omega), Lib.hid rfl⟩
   case round =>
    obtain ⟨j, y, rfl, rfl, hj, hy, HY⟩ := hrel
    by_cases h8 : j < 8
    ·by_cases hodd : (y : Int) % 2 = 1
     ·have hod : (bits .and .u32 (y : Int) 1 == 1) = true := by rw [zdj hy]; simp; omega
      have HS := Lib.hid (show z50 (j + 1) (x ^^^ nb s k) = (y / 2) ^^^ 3558460437 by rw [z50, HY.out, zbM, if_pos (by omega)])
      go_wp2
      go_round
      case rel => exact ⟨j + 1, (y / 2) ^^^ 3558460437, by go_num, congrArg (Value.int .u32) (zac hy), by omega, z8j (by omega) (by omega), HS⟩
      case measure => simp [intOf]; omega
     ·have hod : (bits .and .u32 (y : Int) 1 == 1) = false := by rw [zdj hy]; simp; omega
      have HS := Lib.hid (show z50 (j + 1) (x ^^^ nb s k) = y / 2 by rw [z50, HY.out, zbM, if_neg (by omega)])
      go_wp2
      go_round
      case rel => exact ⟨j + 1, y / 2, by go_num, by go_num, by omega, by omega, HS⟩
      case measure => simp [intOf]; omega
    ·obtain rfl : j = 8 := by omega
     go_wp2
     go_round
     case rel => exact ⟨k + 1, y, by go_num, rfl, by omega, hy, Lib.hid (by rw [HT.out, z5Z, HK.out, HB.out, HY.out])⟩
     case measure => simp [intOf]; omega
  ·go_wp2
   go_ret
   exact ⟨by rw [← HK.out, List.take_of_length_le (by rw [z0u]; omega)]; rfl, rfl⟩
theorem zgE (s : ByteArray) (w : World) (hs : (s.size : Int) ≤ 1000000000) :
 Calls Tryz.prog 245 #[.string s] w fun e w' => e = .returned (.int .u32 ((z3F s.data.toList : Nat) : Int)) ∧ w = w' := by
 have hc := zbZ 4294967295 s w hs (by omega)
 have HC := Lib.hid hc
 clear hc
 go_enter Tryz.func245, Tryz.ntmps245
 go_wp2_with (go_at_call 270; refine HC.out.mono ?_; rintro e w1 ⟨rfl, rfl⟩)
 go_ret
 exact ⟨rfl, rfl⟩
theorem z7V (x : Nat) (w : World) (hx : (x : Int) ≤ 4294967295) :
 Calls Tryz.prog 244 #[.int .u32 (x : Int)] w fun e w' => e = .returned (.string (bs (z3n x))) ∧ Below w.heap.size w w' := by
 have hcv := (Byt.lit w #[.int .u8 ((x : Int) / 16777216), .int .u8 ((x : Int) / 65536 % 256), .int .u8 ((x : Int) / 256 % 256), .int .u8 ((x : Int) % 256)] (z3n x) 4 rfl (z7j hx) (by simp [z3n])).string
 go_enter Tryz.func244, Tryz.ntmps244
 go_wp2
 go_ret
 exact ⟨rfl, (Below.refl _ w).alloc (Nat.le_refl _) _⟩
theorem zay (x0 : Nat) (s : ByteArray) (w : World) (hs : (s.size : Int) ≤ 1000000000) (hx : (x0 : Int) ≤ 4294967295) :
 Calls Tryz.prog 287 #[.int .u32 (x0 : Int), .string s] w fun e w' => e = .returned (.int .u32 ((z2q x0 s.data.toList : Nat) : Int)) ∧ w = w' := by
 go_enter Tryz.func287, Tryz.ntmps287
 go_wp2
 go_loop [0, 5] (fun t i => ∃ k x : Nat, i = .int .i64 (k : Int) ∧ t = .int .u32 (x : Int) ∧ k ≤ s.size ∧ (x : Int) ≤ 4294967295 ∧ Hid (z2q x0 (s.data.toList.take k) = x)) (fun _ i => s.size - (intOf i).toNat)
 case atStart => exact ⟨0, x0, rfl, rfl, by omega, hx, Lib.hid (by simp [z2q])⟩
 case round =>
  obtain ⟨k, x, rfl, rfl, hk, hx1, HK⟩ := hrel
  by_cases hin : k < s.size
  ·have hnb := z5U s
   have hb1 := z9K s k
   obtain ⟨b, hb, ht⟩ := z60 s k hin
   have HB := Lib.hid hb
   have HT := Lib.hid ht
   clear hb ht
   go_wp2
   go_loop [0, 6] (fun t i => ∃ j y : Nat, i = .int .i64 (j : Int) ∧ t = .int .u32 (y : Int) ∧ j ≤ 8 ∧ (y : Int) ≤ 4294967295 ∧ Hid (z50 j (x ^^^ nb s k) = y)) (fun _ i => 8 - (intOf i).toNat)
   case atStart => exact ⟨0, x ^^^ nb s k, rfl, congrArg (Value.int .u32) (xr32 hx1 (by omega)), by omega, z8j hx1 (by omega), Lib.hid rfl⟩
   case round =>
    obtain ⟨j, y, rfl, rfl, hj, hy, HY⟩ := hrel
    by_cases h8 : j < 8
    ·by_cases hodd : (y : Int) % 2 = 1
     ·have HS := Lib.hid (show z50 (j + 1) (x ^^^ nb s k) = (y / 2) ^^^ 3558460437 by rw [z50, HY.out, zbM, if_pos (by omega)])
      go_wp2
      go_round
      case rel => exact ⟨j + 1, (y / 2) ^^^ 3558460437, by go_num, congrArg (Value.int .u32) (zac hy), by omega, z8j (by omega) (by omega), HS⟩
      case measure => simp [intOf]; omega
     ·have HS := Lib.hid (show z50 (j + 1) (x ^^^ nb s k) = y / 2 by rw [z50, HY.out, zbM, if_neg (by omega)])
      go_wp2
      go_round
      case rel => exact ⟨j + 1, y / 2, by go_num, by go_num, by omega, by omega, HS⟩
      case measure => simp [intOf]; omega
    ·obtain rfl : j = 8 := by omega
     go_wp2
     go_round
     case rel => exact ⟨k + 1, y, by go_num, rfl, by omega, hy, Lib.hid (by rw [HT.out, z5Z, HK.out, HB.out, HY.out])⟩
     case measure => simp [intOf]; omega
  ·go_wp2
   go_ret
   exact ⟨by rw [← HK.out, List.take_of_length_le (by rw [z0u]; omega)]; rfl, rfl⟩
theorem zeH (s : ByteArray) (w : World) (hs : (s.size : Int) ≤ 1000000000) :
 Calls Tryz.prog 266 #[.string s] w fun e w' => e = .returned (.int .u32 ((z3F s.data.toList : Nat) : Int)) ∧ w = w' := by
 have hc := zay 4294967295 s w hs (by omega)
 have HC := Lib.hid hc
 clear hc
 go_enter Tryz.func266, Tryz.ntmps266
 go_wp2_with (go_at_call 287; refine HC.out.mono ?_; rintro e w1 ⟨rfl, rfl⟩)
 go_ret
 exact ⟨rfl, rfl⟩
theorem z7k (x : Nat) (w : World) (hx : (x : Int) ≤ 4294967295) :
 Calls Tryz.prog 265 #[.int .u32 (x : Int)] w fun e w' => e = .returned (.string (bs (z3n x))) ∧ Below w.heap.size w w' := by
 have hcv := (Byt.lit w #[.int .u8 ((x : Int) / 16777216), .int .u8 ((x : Int) / 65536 % 256), .int .u8 ((x : Int) / 256 % 256), .int .u8 ((x : Int) % 256)] (z3n x) 4 rfl (z7j hx) (by simp [z3n])).string
 go_enter Tryz.func265, Tryz.ntmps265
 go_wp2
 go_ret
 exact ⟨rfl, (Below.refl _ w).alloc (Nat.le_refl _) _⟩
end Go.Proofs.YtnhcfmmdaihneaaGreatDoor
