/- Changes: the tests, the texts, the readers of both sides, and the law that they agree. The program's reader of fields: each of its methods, the reader's block known whole. The reference's reader of fields: each of its functions, the reader's block known whole. Changes: what both readers read. Checksums: what both sides' functions compute. -/
import Derived.Test.YthcfalipgnpelaaGreatDoorWa
import Derived.Deep.RegionHeld3
import Derived.Test.YthcfalipgnpelaaGreatDoorPlainM
namespace Go.Proofs.YthcfalipgnpelaaGreatDoor
set_option maxRecDepth 100000
set_option maxHeartbeats 400000
set_option linter.unusedVariables false
set_option linter.unusedSimpArgs false
set_option linter.unusedSectionVars false
open Go.RowKit Pl
def z0r (id : Int) (n v : Bs) : Bool := (decide (1 ≤ id) && decide (id ≤ 99)) && z1p n && (v.isEmpty || z19 v)
theorem z6s (id : Int) (n v : ByteArray) (w : World) (hn : (n.size : Int) ≤ 1000000000) (hv : (v.size : Int) ≤ 1000000000) :
 Calls Tryz.prog 331 #[.agg #[.int .i64 id, .string n, .string v]] w fun e w' => e = .returned (.bool (z0r id n.data.toList v.data.toList)) ∧ Below w.heap.size w w' := by
 by_cases hid : 1 ≤ id ∧ id ≤ 99
 ·obtain ⟨h1, h2⟩ := hid
  cases hN : z1p n.data.toList
  ·have hfin : z0r id n.data.toList v.data.toList = false := by rw [z0r, hN]; simp
   have HF := Lib.hid hfin
   clear hfin
   go_enter Tryz.func331, Tryz.ntmps331
   go_wp2_with (first | (go_at_call 90; refine (z7n _ _ _ _ h1 h2).mono ?_; rintro e w1 ⟨rfl, rfl⟩) | (go_at_call 306; refine (z64 _ _ hn).mono ?_; rintro e w1 ⟨rfl, rfl⟩))
   go_ret
   exact ⟨by rw [HF.out]; rfl, (Below.refl _ _).alloc (Nat.le_refl _) _⟩
  ·cases hE : v.toList.isEmpty
   ·have hfin : z0r id n.data.toList v.data.toList = z19 v.data.toList := by rw [toList_data] at hE; rw [z0r, hN, hE]; simp [h1, h2]
    have HF := Lib.hid hfin
    clear hfin
    go_enter Tryz.func331, Tryz.ntmps331
    go_wp2_with (first | (go_at_call 90; refine (z7n _ _ _ _ h1 h2).mono ?_; rintro e w1 ⟨rfl, rfl⟩) | (go_at_call 306; refine (z64 _ _ hn).mono ?_; rintro e w1 ⟨rfl, rfl⟩) | (go_at_call 307; refine (zcy _ _ hv).mono ?_; rintro e w1 ⟨rfl, rfl⟩))
    go_ret
    exact ⟨by rw [HF.out]; rfl, (Below.refl _ _).alloc (Nat.le_refl _) _⟩
   ·have hfin : z0r id n.data.toList v.data.toList = true := by rw [toList_data] at hE; rw [z0r, hN, hE]; simp [h1, h2]
    have HF := Lib.hid hfin
    clear hfin
    go_enter Tryz.func331, Tryz.ntmps331
    go_wp2_with (first | (go_at_call 90; refine (z7n _ _ _ _ h1 h2).mono ?_; rintro e w1 ⟨rfl, rfl⟩) | (go_at_call 306; refine (z64 _ _ hn).mono ?_; rintro e w1 ⟨rfl, rfl⟩))
    go_ret
    exact ⟨by rw [HF.out]; rfl, (Below.refl _ _).alloc (Nat.le_refl _) _⟩
 ·have hfin : z0r id n.data.toList v.data.toList = false := by
   rw [z0r]
   have : (decide (1 ≤ id) && decide (id ≤ 99)) = false := by simp; omega
   rw [this]; simp
  have HF := Lib.hid hfin
  clear hfin
  go_enter Tryz.func331, Tryz.ntmps331
  go_wp2_with (go_at_call 90; refine (zjt _ _ _ _ hid).mono ?_; rintro e w1 ⟨rfl, rfl⟩)
  go_ret
  exact ⟨by rw [HF.out]; rfl, (Below.refl _ _).alloc (Nat.le_refl _) _⟩
theorem z5v (id : Int) (n v : ByteArray) (w : World) (hn : (n.size : Int) ≤ 1000000000) (hv : (v.size : Int) ≤ 1000000000) :
 Calls Tryz.prog 341 #[.agg #[.int .i64 id, .string n, .string v]] w fun e w' => e = .returned (.bool (z0r id n.data.toList v.data.toList)) ∧ Below w.heap.size w w' := by
 by_cases hid : 1 ≤ id ∧ id ≤ 99
 ·obtain ⟨h1, h2⟩ := hid
  cases hN : z1p n.data.toList
  ·have hfin : z0r id n.data.toList v.data.toList = false := by rw [z0r, hN]; simp
   have HF := Lib.hid hfin
   clear hfin
   go_enter Tryz.func341, Tryz.ntmps341
   go_wp2_with (first | (go_at_call 31; refine (z63 _ _ _ _ h1 h2).mono ?_; rintro e w1 ⟨rfl, rfl⟩) | (go_at_call 294; refine (z4T _ _ hn).mono ?_; rintro e w1 ⟨rfl, rfl⟩))
   go_ret
   exact ⟨by rw [HF.out]; rfl, (Below.refl _ _).alloc (Nat.le_refl _) _⟩
  ·cases hE : v.toList.isEmpty
   ·have hfin : z0r id n.data.toList v.data.toList = z19 v.data.toList := by rw [toList_data] at hE; rw [z0r, hN, hE]; simp [h1, h2]
    have HF := Lib.hid hfin
    clear hfin
    go_enter Tryz.func341, Tryz.ntmps341
    go_wp2_with (first | (go_at_call 31; refine (z63 _ _ _ _ h1 h2).mono ?_; rintro e w1 ⟨rfl, rfl⟩) | (go_at_call 294; refine (z4T _ _ hn).mono ?_; rintro e w1 ⟨rfl, rfl⟩) | (go_at_call 295; refine (zaO _ _ hv).mono ?_; rintro e w1 ⟨rfl, rfl⟩))
    go_ret
    exact ⟨by rw [HF.out]; rfl, (Below.refl _ _).alloc (Nat.le_refl _) _⟩
   ·have hfin : z0r id n.data.toList v.data.toList = true := by rw [toList_data] at hE; rw [z0r, hN, hE]; simp [h1, h2]
    have HF := Lib.hid hfin
    clear hfin
    go_enter Tryz.func341, Tryz.ntmps341
    go_wp2_with (first | (go_at_call 31; refine (z63 _ _ _ _ h1 h2).mono ?_; rintro e w1 ⟨rfl, rfl⟩) | (go_at_call 294; refine (z4T _ _ hn).mono ?_; rintro e w1 ⟨rfl, rfl⟩))
    go_ret
    exact ⟨by rw [HF.out]; rfl, (Below.refl _ _).alloc (Nat.le_refl _) _⟩
 ·have hfin : z0r id n.data.toList v.data.toList = false := by
   rw [z0r]
   have : (decide (1 ≤ id) && decide (id ≤ 99)) = false := by simp; omega
   rw [this]; simp
  have HF := Lib.hid hfin
  clear hfin
  go_enter Tryz.func341, Tryz.ntmps341
  go_wp2_with (go_at_call 31; refine (zgS _ _ _ _ hid).mono ?_; rintro e w1 ⟨rfl, rfl⟩)
  go_ret
  exact ⟨by rw [HF.out]; rfl, (Below.refl _ _).alloc (Nat.le_refl _) _⟩
def z17 (id : Int) (n v : Bs) : Bs := z0d id.toNat ++ z0h n ++ z0h v
theorem z8o (id : Int) (n v : ByteArray) (w : World) (hn : (n.size : Int) ≤ 1000000000) (hv : (v.size : Int) ≤ 1000000000) (ho : z0r id n.data.toList v.data.toList = false) :
 Calls Tryz.prog 329 #[.agg #[.int .i64 id, .string n, .string v]] w fun e w' => e = .returned (.tuple #[.string (bs []), .bool false]) ∧ Below w.heap.size w w' := by
 go_enter Tryz.func329, Tryz.ntmps329
 go_wp2_with (go_at_call 341; refine (z5v _ _ _ _ hn hv).mono ?_; rintro e w1 ⟨rfl, hb1⟩)
 go_ret2
 exact ⟨rfl, ((Below.refl _ w).alloc (Nat.le_refl _) _).trans (hb1.mono (by simp))⟩
theorem z7t (id : Nat) (n v : ByteArray) (w : World) (hn : (n.size : Int) ≤ 1000000000) (hv : (v.size : Int) ≤ 1000000000) (ho : z0r (id : Int) n.data.toList v.data.toList = true) :
 Calls Tryz.prog 329 #[.agg #[.int .i64 (id : Int), .string n, .string v]] w fun e w' => e = .returned (.tuple #[.string (bs (z17 (id : Int) n.data.toList v.data.toList)), .bool true]) ∧ Below w.heap.size w w' := by
 have hi : (id : Int) ≤ 99 := by
  unfold z0r at ho
  simp at ho; omega
 have l1 := z1u (n := id) (by omega)
 have l2 := z1u (n := n.size) (by omega)
 have l3 := z1u (n := v.size) (by omega)
 rw [← z0O] at l1 l2 l3
 have q1 : ¬ (9223372036854775807 < (bs (z0d id)).size + (bs (z0d n.size)).size) := by omega
 have q2 : ¬ (9223372036854775807 < (bs (z0d id)).size + (bs (z0d n.size)).size + n.size) := by omega
 have q3 : ¬ (9223372036854775807 < (bs (z0d id)).size + (bs (z0d n.size)).size + n.size + (bs (z0d v.size)).size) := by omega
 have q4 : ¬ (9223372036854775807 < (bs (z0d id)).size + (bs (z0d n.size)).size + n.size + (bs (z0d v.size)).size + v.size) := by omega
 go_enter Tryz.func329, Tryz.ntmps329
 go_wp2_with (go_at_call 341; refine (z5v _ _ _ _ hn hv).mono ?_; rintro e w1 ⟨rfl, hb1⟩)
 have hB1 : Below w.heap.size w w1 := ((Below.refl _ w).alloc (Nat.le_refl _) _).trans (hb1.mono (by simp))
 have hX1 := (Box.new w 234 #[.int .i64 (id : Int), .string n, .string v]).below hb1 (by simp)
 go_region_held3 (fun W => Below w.heap.size w W ∧ Box W w.heap.size 234 #[.int .i64 (id : Int), .string n, .string v] ∧ W.cell? ⟨w.heap.size, 0, none⟩ = some (.int .i64 (id : Int)) ∧ W.cell? ⟨w.heap.size, 1, none⟩ = some (.string n) ∧ W.cell? ⟨w.heap.size, 2, none⟩ = some (.string v)) (first | exact ⟨hB1.drew, hX1.drew, hX1.drew.cell 0, hX1.drew.cell 1, hX1.drew.cell 2⟩ | assumption | exact zgR (by assumption) hb) (first | (go_at_call 166; refine (z6M _ _ (by omega)).mono ?_; rintro e w2 ⟨rfl, hb⟩) | fail)
 rename Below _ _ _ ∧ _ => hH
 have hB2 := hH.1
 clear hH
 go_wp2
 go_ret2
 refine ⟨?_, hB2⟩
 have e1 : bs (z0d id) ++ bs (z0d n.size) ++ n ++ bs (z0d v.size) ++ v = bs (z17 (id : Int) n.data.toList v.data.toList) := by
  refine z5a ?_
  simp only [data_append, z0Q, z17, z0h, z0l, Int.toNat_natCast, List.append_assoc]
 rw [← e1]; rfl
end Go.Proofs.YthcfalipgnpelaaGreatDoor
namespace Go.Proofs.YthcfalipgnpelaaGreatDoor
set_option maxRecDepth 100000
set_option maxHeartbeats 400000
set_option linter.unusedVariables false
set_option linter.unusedSimpArgs false
set_option linter.unusedSectionVars false
open Go.RowKit Pl
def Fld (w : World) (g : Nat) (s : ByteArray) (p : Nat) (bad : Bool) : Prop := Box w g 265 #[.string s, .int .i64 (p : Int), .bool bad]
theorem Fld.c0 {w : World} {g : Nat} {s : ByteArray} {p : Nat} {bad : Bool} (h : Fld w g s p bad) : w.cell? ⟨g, 0, none⟩ = some (.string s) := Box.cell h 0
theorem Fld.c1 {w : World} {g : Nat} {s : ByteArray} {p : Nat} {bad : Bool} (h : Fld w g s p bad) : w.cell? ⟨g, 1, none⟩ = some (.int .i64 (p : Int)) := Box.cell h 1
theorem Fld.c2 {w : World} {g : Nat} {s : ByteArray} {p : Nat} {bad : Bool} (h : Fld w g s p bad) : w.cell? ⟨g, 2, none⟩ = some (.bool bad) := Box.cell h 2
theorem zjA (g : Nat) (s : ByteArray) (p : Nat) (bad : Bool) (w : World) (hs : (s.size : Int) ≤ 1000000000) (hp : p ≤ s.size) (hF : Fld w g s p bad) :
 Calls Tryz.prog 230 #[.pointer (some ⟨g, 0, none⟩)] w fun e w' => e = .returned (.int .i64 ((z18 s.data.toList p bad).1 : Int)) ∧ Fld w' g s (z18 s.data.toList p bad).2.1 (z18 s.data.toList p bad).2.2 ∧ Only g w w' := by
 have c0 := hF.c0
 have c1 := hF.c1
 have c2 := hF.c2
 have f1 : w.frozen? ⟨g, 1, none⟩ = false := Box.free hF 1
 have f2 : w.frozen? ⟨g, 2, none⟩ = false := Box.free hF 2
 have HF := Lib.hid hF
 clear hF
 rcases hr : z0w s.data.toList p with _ | ⟨n, q⟩
 ·have hfin : z18 s.data.toList p bad = (0, p, true) := by rw [z18, hr]
  have HR := Lib.hid hr
  have HN := Lib.hid hfin
  clear hr hfin
  go_enter Tryz.func230, Tryz.ntmps230
  go_wp2
  go_quiet ((go_at_call 279; exact z9z (z6m _ hs hp HR.out)))
  go_wp2
  go_ret
  rw [HN.out]
  exact ⟨rfl, Box.set (HF.out.drewN _) 2 _, ((Only.refl g w).drewN _).set (.inl rfl) _⟩
 ·have hfin : z18 s.data.toList p bad = (n, q, bad) := by rw [z18, hr]
  have HR := Lib.hid hr
  have HN := Lib.hid hfin
  clear hr hfin
  go_enter Tryz.func230, Tryz.ntmps230
  go_wp2
  go_quiet ((go_at_call 279; exact z9z (z3f _ hs hp HR.out)))
  go_wp2
  go_ret
  rw [HN.out]
  exact ⟨rfl, Box.set (HF.out.drewN _) 1 _, ((Only.refl g w).drewN _).set (.inl rfl) _⟩
theorem zfa (g : Nat) (s : ByteArray) (p : Nat) (bad : Bool) (w : World) (hs : (s.size : Int) ≤ 1000000000) (hp : p ≤ s.size) (hF : Fld w g s p bad) :
 Calls Tryz.prog 283 #[.pointer (some ⟨g, 0, none⟩)] w fun e w' => e = .returned (.string (bs (z0G s.data.toList p bad).1)) ∧ Fld w' g s (z0G s.data.toList p bad).2.1 (z0G s.data.toList p bad).2.2 ∧ Only g w w' := by
 have c0 := hF.c0
 have c1 := hF.c1
 have c2 := hF.c2
 have f1 : w.frozen? ⟨g, 1, none⟩ = false := Box.free hF 1
 have f2 : w.frozen? ⟨g, 2, none⟩ = false := Box.free hF 2
 have HF := Lib.hid hF
 clear hF
 rcases hr : z0g s.data.toList p with _ | ⟨l, q⟩
 ·have hfin : z0G s.data.toList p bad = ([], p, true) := by rw [z0G, hr]
  have HR := Lib.hid hr
  have HN := Lib.hid hfin
  clear hr hfin
  go_enter Tryz.func283, Tryz.ntmps283
  go_wp2
  go_quiet ((go_at_call 326; exact z9z (z8m _ hs hp HR.out)))
  go_wp2
  go_ret
  rw [HN.out]
  exact ⟨rfl, Box.set (HF.out.drewN _) 2 _, ((Only.refl g w).drewN _).set (.inl rfl) _⟩
 ·have hfin : z0G s.data.toList p bad = (l, q, bad) := by rw [z0G, hr]
  have HR := Lib.hid hr
  have HN := Lib.hid hfin
  clear hr hfin
  go_enter Tryz.func283, Tryz.ntmps283
  go_wp2
  go_quiet ((go_at_call 326; exact z9z (z8n _ hs hp HR.out)))
  go_wp2
  go_ret
  rw [HN.out]
  exact ⟨rfl, Box.set (HF.out.drewN _) 1 _, ((Only.refl g w).drewN _).set (.inl rfl) _⟩
theorem zha (g : Nat) (s : ByteArray) (p : Nat) (bad : Bool) (w : World) (hs : (s.size : Int) ≤ 1000000000) (hp : p ≤ s.size) (hF : Fld w g s p bad) :
 Calls Tryz.prog 231 #[.pointer (some ⟨g, 0, none⟩)] w fun e w' => e = .returned (.bool (z1n bad p s.size)) ∧ ∃ n, w' = w.drewN n := by
 have c0 := hF.c0
 have c1 := hF.c1
 have c2 := hF.c2
 clear hF
 cases bad
 ·by_cases h : p = s.size
  ·have h1 : ((p : Int) == (s.size : Int)) = true := by simp [h]
   have h2 : z1n false p s.size = true := by simp [z1n, h]
   have H2 := Lib.hid h2
   clear h h2
   go_enter Tryz.func231, Tryz.ntmps231
   go_wp2
   go_quiet (fail)
   go_wp2
   go_ret
   exact ⟨by rw [H2.out]; rfl, _, rfl⟩
  ·have h1 : ((p : Int) == (s.size : Int)) = false := by simp; omega
   have h2 : z1n false p s.size = false := by simp [z1n, h]
   have H2 := Lib.hid h2
   clear h h2
   go_enter Tryz.func231, Tryz.ntmps231
   go_wp2
   go_quiet (fail)
   go_wp2
   go_ret
   exact ⟨by rw [H2.out]; rfl, _, rfl⟩
 ·go_enter Tryz.func231, Tryz.ntmps231
  go_wp2
  go_quiet (fail)
  go_wp2
  go_ret
  exact ⟨rfl, _, rfl⟩
section
variable {g : Nat} {s : ByteArray} {p q n : Nat} {bad b : Bool} {l : Bs} {w : World} (hs : (s.size : Int) ≤ 1000000000) (hp : p ≤ s.size)
include hs hp
theorem zcD (h : z18 s.data.toList p bad = (n, q, b)) (hF : Fld w g s p bad) :
 Calls Tryz.prog 230 #[.pointer (some ⟨g, 0, none⟩)] w fun e w' => e = .returned (.int .i64 (n : Int)) ∧ Fld w' g s q b ∧ Only g w w' := by
 have := zjA g s p bad w hs hp hF
 rw [h] at this; exact this
theorem z3B (h : z0G s.data.toList p bad = (l, q, b)) (hF : Fld w g s p bad) :
 Calls Tryz.prog 283 #[.pointer (some ⟨g, 0, none⟩)] w fun e w' => e = .returned (.string (bs l)) ∧ Fld w' g s q b ∧ Only g w w' := by
 have := zfa g s p bad w hs hp hF
 rw [h] at this; exact this
theorem z9K {d : Bool} (h : z1n bad p s.size = d) (hF : Fld w g s p bad) :
 Calls Tryz.prog 231 #[.pointer (some ⟨g, 0, none⟩)] w fun e w' => e = .returned (.bool d) ∧ ∃ n, w' = w.drewN n := by
 have := zha g s p bad w hs hp hF
 rw [h] at this; exact this
end
theorem Fld.new {w : World} {g : Nat} {s : ByteArray} (h : g = w.heap.size) : Fld (w.alloc (.cells #[.string s, .int .i64 0, .bool false] 265)) g s 0 false := by subst h; exact Box.new w _ _
end Go.Proofs.YthcfalipgnpelaaGreatDoor
namespace Go.Proofs.YthcfalipgnpelaaGreatDoor
set_option maxRecDepth 100000
set_option maxHeartbeats 400000
set_option linter.unusedVariables false
set_option linter.unusedSimpArgs false
set_option linter.unusedSectionVars false
open Go.RowKit Pl
def Cur (w : World) (g : Nat) (s : ByteArray) (p : Nat) (bad : Bool) : Prop := Box w g 255 #[.string s, .int .i64 (p : Int), .bool bad]
theorem Cur.c0 {w : World} {g : Nat} {s : ByteArray} {p : Nat} {bad : Bool} (h : Cur w g s p bad) : w.cell? ⟨g, 0, none⟩ = some (.string s) := Box.cell h 0
theorem Cur.c1 {w : World} {g : Nat} {s : ByteArray} {p : Nat} {bad : Bool} (h : Cur w g s p bad) : w.cell? ⟨g, 1, none⟩ = some (.int .i64 (p : Int)) := Box.cell h 1
theorem Cur.c2 {w : World} {g : Nat} {s : ByteArray} {p : Nat} {bad : Bool} (h : Cur w g s p bad) : w.cell? ⟨g, 2, none⟩ = some (.bool bad) := Box.cell h 2
theorem zjB (g : Nat) (s : ByteArray) (p : Nat) (bad : Bool) (w : World) (hs : (s.size : Int) ≤ 1000000000) (hp : p ≤ s.size) (hF : Cur w g s p bad) :
 Calls Tryz.prog 222 #[.pointer (some ⟨g, 0, none⟩)] w fun e w' => e = .returned (.int .i64 ((numS s.data.toList p bad).1 : Int)) ∧ Cur w' g s (numS s.data.toList p bad).2.1 (numS s.data.toList p bad).2.2 ∧ Only g w w' := by
 have hg := Box.lt hF
 have c0 := hF.c0
 have c1 := hF.c1
 have c2 := hF.c2
 have f1 : w.frozen? ⟨g, 1, none⟩ = false := Box.free hF 1
 have f2 : w.frozen? ⟨g, 2, none⟩ = false := Box.free hF 2
 have HF := Lib.hid hF
 clear hF
 rcases hr : z0w s.data.toList p with _ | ⟨n, q⟩
 ·have hfin : numS s.data.toList p bad = (0, p, true) := by rw [numS, z18, hr]; simp
  have HR := Lib.hid hr
  have HN := Lib.hid hfin
  clear hr hfin
  cases bad
  ·skip
   go_enter Tryz.func222, Tryz.ntmps222
   go_wp2
   go_region_held3 (fun W => W.cell? ⟨g, 0, none⟩ = some (.string s) ∧ W.cell? ⟨g, 1, none⟩ = some (.int .i64 (p : Int))) (first | exact ⟨c0, c1⟩ | exact ⟨(hb1.cell hg).trans c0, (hb1.cell hg).trans c1⟩) (first | (go_at_call 272; refine (z3M _ hs hp HR.out).mono ?_; rintro e w1 ⟨rfl, hb1⟩) | fail)
   have hB : Below w.heap.size w w1 := (Below.refl _ w).drew.trans hb1
   have hF1 : Cur w1 g s p false := Box.below HF.out hB hg
   have d2 := hF1.c2
   have e1 : w1.frozen? ⟨g, 1, none⟩ = false := Box.free hF1 1
   have e2 : w1.frozen? ⟨g, 2, none⟩ = false := Box.free hF1 2
   have d1 := hF1.c1
   have H1 := Lib.hid hF1
   clear hF1 c0 c1 c2 f1 f2
   go_wp2
   go_ret
   rw [HN.out]
   exact ⟨rfl, H1.out.set 2 _, (Only.of_below hB g).set (.inl rfl) _⟩
  ·skip
   go_enter Tryz.func222, Tryz.ntmps222
   go_wp2
   go_region_held3 (fun W => W.cell? ⟨g, 0, none⟩ = some (.string s) ∧ W.cell? ⟨g, 1, none⟩ = some (.int .i64 (p : Int))) (first | exact ⟨c0, c1⟩ | exact ⟨(hb1.cell hg).trans c0, (hb1.cell hg).trans c1⟩) (first | (go_at_call 272; refine (z3M _ hs hp HR.out).mono ?_; rintro e w1 ⟨rfl, hb1⟩) | fail)
   have hB : Below w.heap.size w w1 := (Below.refl _ w).drew.trans hb1
   have hF1 : Cur w1 g s p true := Box.below HF.out hB hg
   have d2 := hF1.c2
   have e1 : w1.frozen? ⟨g, 1, none⟩ = false := Box.free hF1 1
   have e2 : w1.frozen? ⟨g, 2, none⟩ = false := Box.free hF1 2
   have d1 := hF1.c1
   have H1 := Lib.hid hF1
   clear hF1 c0 c1 c2 f1 f2
   go_wp2
   go_ret
   rw [HN.out]
   exact ⟨rfl, H1.out.set 2 _, (Only.of_below hB g).set (.inl rfl) _⟩
 ·cases bad
  ·have hfin : numS s.data.toList p false = (n, q, false) := by rw [numS, z18, hr]; simp
   have HR := Lib.hid hr
   have HN := Lib.hid hfin
   clear hr hfin
   go_enter Tryz.func222, Tryz.ntmps222
   go_wp2
   go_region_held3 (fun W => W.cell? ⟨g, 0, none⟩ = some (.string s) ∧ W.cell? ⟨g, 1, none⟩ = some (.int .i64 (p : Int))) (first | exact ⟨c0, c1⟩ | exact ⟨(hb1.cell hg).trans c0, (hb1.cell hg).trans c1⟩) (first | (go_at_call 272; refine (z2f _ hs hp HR.out).mono ?_; rintro e w1 ⟨rfl, hb1⟩) | fail)
   have hB : Below w.heap.size w w1 := (Below.refl _ w).drew.trans hb1
   have hF1 : Cur w1 g s p false := Box.below HF.out hB hg
   have d2 := hF1.c2
   have e1 : w1.frozen? ⟨g, 1, none⟩ = false := Box.free hF1 1
   have e2 : w1.frozen? ⟨g, 2, none⟩ = false := Box.free hF1 2
   have d1 := hF1.c1
   have H1 := Lib.hid hF1
   clear hF1 c0 c1 c2 f1 f2
   go_wp2
   go_ret
   rw [HN.out]
   exact ⟨rfl, H1.out.set 1 _, (Only.of_below hB g).set (.inl rfl) _⟩
  ·have hfin : numS s.data.toList p true = (0, p, true) := by rw [numS]; simp
   have HR := Lib.hid hr
   have HN := Lib.hid hfin
   clear hr hfin
   go_enter Tryz.func222, Tryz.ntmps222
   go_wp2
   go_region_held3 (fun W => W.cell? ⟨g, 0, none⟩ = some (.string s) ∧ W.cell? ⟨g, 1, none⟩ = some (.int .i64 (p : Int))) (first | exact ⟨c0, c1⟩ | exact ⟨(hb1.cell hg).trans c0, (hb1.cell hg).trans c1⟩) (first | (go_at_call 272; refine (z2f _ hs hp HR.out).mono ?_; rintro e w1 ⟨rfl, hb1⟩) | fail)
   have hB : Below w.heap.size w w1 := (Below.refl _ w).drew.trans hb1
   have hF1 : Cur w1 g s p true := Box.below HF.out hB hg
   have d2 := hF1.c2
   have e1 : w1.frozen? ⟨g, 1, none⟩ = false := Box.free hF1 1
   have e2 : w1.frozen? ⟨g, 2, none⟩ = false := Box.free hF1 2
   have d1 := hF1.c1
   have H1 := Lib.hid hF1
   clear hF1 c0 c1 c2 f1 f2
   go_wp2
   go_ret
   rw [HN.out]
   exact ⟨rfl, H1.out.set 2 _, (Only.of_below hB g).set (.inl rfl) _⟩
theorem zfb (g : Nat) (s : ByteArray) (p : Nat) (bad : Bool) (w : World) (hs : (s.size : Int) ≤ 1000000000) (hp : p ≤ s.size) (hF : Cur w g s p bad) :
 Calls Tryz.prog 275 #[.pointer (some ⟨g, 0, none⟩)] w fun e w' => e = .returned (.string (bs (z1q s.data.toList p bad).1)) ∧ Cur w' g s (z1q s.data.toList p bad).2.1 (z1q s.data.toList p bad).2.2 ∧ Only g w w' := by
 have hg := Box.lt hF
 have c0 := hF.c0
 have c1 := hF.c1
 have c2 := hF.c2
 have f1 : w.frozen? ⟨g, 1, none⟩ = false := Box.free hF 1
 have f2 : w.frozen? ⟨g, 2, none⟩ = false := Box.free hF 2
 have HF := Lib.hid hF
 clear hF
 rcases hr : z0g s.data.toList p with _ | ⟨n, q⟩
 ·have hfin : z1q s.data.toList p bad = ([], p, true) := by rw [z1q, z0G, hr]; simp
  have HR := Lib.hid hr
  have HN := Lib.hid hfin
  clear hr hfin
  cases bad
  ·skip
   go_enter Tryz.func275, Tryz.ntmps275
   go_wp2
   go_region_held3 (fun W => W.cell? ⟨g, 0, none⟩ = some (.string s) ∧ W.cell? ⟨g, 1, none⟩ = some (.int .i64 (p : Int))) (first | exact ⟨c0, c1⟩ | exact ⟨(hb1.cell hg).trans c0, (hb1.cell hg).trans c1⟩) (first | (go_at_call 286; refine (z4c _ hs hp HR.out).mono ?_; rintro e w1 ⟨rfl, hb1⟩) | fail)
   have hB : Below w.heap.size w w1 := (Below.refl _ w).drew.trans hb1
   have hF1 : Cur w1 g s p false := Box.below HF.out hB hg
   have d2 := hF1.c2
   have e1 : w1.frozen? ⟨g, 1, none⟩ = false := Box.free hF1 1
   have e2 : w1.frozen? ⟨g, 2, none⟩ = false := Box.free hF1 2
   have d1 := hF1.c1
   have H1 := Lib.hid hF1
   clear hF1 c0 c1 c2 f1 f2
   go_wp2
   go_ret
   rw [HN.out]
   exact ⟨rfl, H1.out.set 2 _, (Only.of_below hB g).set (.inl rfl) _⟩
  ·skip
   go_enter Tryz.func275, Tryz.ntmps275
   go_wp2
   go_region_held3 (fun W => W.cell? ⟨g, 0, none⟩ = some (.string s) ∧ W.cell? ⟨g, 1, none⟩ = some (.int .i64 (p : Int))) (first | exact ⟨c0, c1⟩ | exact ⟨(hb1.cell hg).trans c0, (hb1.cell hg).trans c1⟩) (first | (go_at_call 286; refine (z4c _ hs hp HR.out).mono ?_; rintro e w1 ⟨rfl, hb1⟩) | fail)
   have hB : Below w.heap.size w w1 := (Below.refl _ w).drew.trans hb1
   have hF1 : Cur w1 g s p true := Box.below HF.out hB hg
   have d2 := hF1.c2
   have e1 : w1.frozen? ⟨g, 1, none⟩ = false := Box.free hF1 1
   have e2 : w1.frozen? ⟨g, 2, none⟩ = false := Box.free hF1 2
   have d1 := hF1.c1
   have H1 := Lib.hid hF1
   clear hF1 c0 c1 c2 f1 f2
   go_wp2
   go_ret
   rw [HN.out]
   exact ⟨rfl, H1.out.set 2 _, (Only.of_below hB g).set (.inl rfl) _⟩
 ·cases bad
  ·have hfin : z1q s.data.toList p false = (n, q, false) := by rw [z1q, z0G, hr]; simp
   have HR := Lib.hid hr
   have HN := Lib.hid hfin
   clear hr hfin
   go_enter Tryz.func275, Tryz.ntmps275
   go_wp2
   go_region_held3 (fun W => W.cell? ⟨g, 0, none⟩ = some (.string s) ∧ W.cell? ⟨g, 1, none⟩ = some (.int .i64 (p : Int))) (first | exact ⟨c0, c1⟩ | exact ⟨(hb1.cell hg).trans c0, (hb1.cell hg).trans c1⟩) (first | (go_at_call 286; refine (z4d _ hs hp HR.out).mono ?_; rintro e w1 ⟨rfl, hb1⟩) | fail)
   have hB : Below w.heap.size w w1 := (Below.refl _ w).drew.trans hb1
   have hF1 : Cur w1 g s p false := Box.below HF.out hB hg
   have d2 := hF1.c2
   have e1 : w1.frozen? ⟨g, 1, none⟩ = false := Box.free hF1 1
   have e2 : w1.frozen? ⟨g, 2, none⟩ = false := Box.free hF1 2
   have d1 := hF1.c1
   have H1 := Lib.hid hF1
   clear hF1 c0 c1 c2 f1 f2
   go_wp2
   go_ret
   rw [HN.out]
   exact ⟨rfl, H1.out.set 1 _, (Only.of_below hB g).set (.inl rfl) _⟩
  ·have hfin : z1q s.data.toList p true = ([], p, true) := by rw [z1q]; simp
   have HR := Lib.hid hr
   have HN := Lib.hid hfin
   clear hr hfin
   go_enter Tryz.func275, Tryz.ntmps275
   go_wp2
   go_region_held3 (fun W => W.cell? ⟨g, 0, none⟩ = some (.string s) ∧ W.cell? ⟨g, 1, none⟩ = some (.int .i64 (p : Int))) (first | exact ⟨c0, c1⟩ | exact ⟨(hb1.cell hg).trans c0, (hb1.cell hg).trans c1⟩) (first | (go_at_call 286; refine (z4d _ hs hp HR.out).mono ?_; rintro e w1 ⟨rfl, hb1⟩) | fail)
   have hB : Below w.heap.size w w1 := (Below.refl _ w).drew.trans hb1
   have hF1 : Cur w1 g s p true := Box.below HF.out hB hg
   have d2 := hF1.c2
   have e1 : w1.frozen? ⟨g, 1, none⟩ = false := Box.free hF1 1
   have e2 : w1.frozen? ⟨g, 2, none⟩ = false := Box.free hF1 2
   have d1 := hF1.c1
   have H1 := Lib.hid hF1
   clear hF1 c0 c1 c2 f1 f2
   go_wp2
   go_ret
   rw [HN.out]
   exact ⟨rfl, H1.out.set 2 _, (Only.of_below hB g).set (.inl rfl) _⟩
section
variable {g : Nat} {s : ByteArray} {p q n : Nat} {z : Int} {bad b : Bool} {l : Bs} {w : World} (hs : (s.size : Int) ≤ 1000000000) (hp : p ≤ s.size)
include hs hp
theorem zlH (h : numS s.data.toList p bad = (n, q, b)) (hF : Cur w g s p bad) :
 Calls Tryz.prog 222 #[.pointer (some ⟨g, 0, none⟩)] w fun e w' => e = .returned (.int .i64 (n : Int)) ∧ Cur w' g s q b ∧ Only g w w' := by
 have := zjB g s p bad w hs hp hF
 rw [h] at this; exact this
theorem zaZ (h : z1q s.data.toList p bad = (l, q, b)) (hF : Cur w g s p bad) :
 Calls Tryz.prog 275 #[.pointer (some ⟨g, 0, none⟩)] w fun e w' => e = .returned (.string (bs l)) ∧ Cur w' g s q b ∧ Only g w w' := by
 have := zfb g s p bad w hs hp hF
 rw [h] at this; exact this
end
theorem Cur.new {w : World} {g : Nat} {s : ByteArray} {b : Bool} (h : g = w.heap.size) : Cur (w.alloc (.cells #[.string s, .int .i64 0, .bool b] 255)) g s 0 b := by subst h; exact Box.new w _ _
end Go.Proofs.YthcfalipgnpelaaGreatDoor
namespace Go.Proofs.YthcfalipgnpelaaGreatDoor
set_option maxRecDepth 100000
set_option maxHeartbeats 800000
set_option linter.unusedVariables false
set_option linter.unusedSimpArgs false
set_option linter.unusedSectionVars false
open Go.RowKit Pl
def z0I (t : Bs) : Option (Nat × Bs × Bs) :=
 let (a, p1, b1) := z18 t 0 false
 let (n, p2, b2) := z0G t p1 b1
 let (v, p3, b3) := z0G t p2 b2
 if z1n b3 p3 t.length && z0r a n v then some (a, n, v) else none
def zlI : Option (Nat × Bs × Bs) → Value
 | none => .tuple #[.agg #[.int .i64 0, .string (bs []), .string (bs [])], .bool false]
 | some (a, n, v) => .tuple #[.agg #[.int .i64 (a : Int), .string (bs n), .string (bs v)], .bool true]
theorem z8p (s : ByteArray) (w : World) (hs : (s.size : Int) ≤ 1000000000) :
 Calls Tryz.prog 301 #[.string s] w fun e w' => e = .returned (zlI (z0I s.data.toList)) ∧ Below w.heap.size w w' := by
 rcases hA : z18 s.data.toList 0 false with ⟨a, p1, b1⟩
 have hp1 := (z3c (t := s.data.toList) (p := 0) (bad := false) (by omega))
 rw [hA, z0l] at hp1
 rcases hN : z0G s.data.toList p1 b1 with ⟨n, p2, b2⟩
 have hp2 := (z3s (t := s.data.toList) (p := p1) (bad := b1) (by rw [z0l]; exact hp1.1))
 rw [hN, z0l] at hp2
 rcases hV : z0G s.data.toList p2 b2 with ⟨v, p3, b3⟩
 have hp3 := (z3s (t := s.data.toList) (p := p2) (bad := b2) (by rw [z0l]; exact hp2.1))
 rw [hV, z0l] at hp3
 simp only at hp1 hp2 hp3
 obtain ⟨hp1, ha⟩ := hp1
 obtain ⟨hp2, hn⟩ := hp2
 obtain ⟨hp3, hv⟩ := hp3
 have hnz : ((bs n).size : Int) ≤ 1000000000 := by rw [z0O]; omega
 have hvz : ((bs v).size : Int) ≤ 1000000000 := by rw [z0O]; omega
 cases hd : z1n b3 p3 s.size
 ·have hfin : z0I s.data.toList = none := by
   simp only [z0I, hA, hN, hV, z0l, hd]; rfl
  have HA := Lib.hid hA
  have HN := Lib.hid hN
  have HV := Lib.hid hV
  have HD := Lib.hid hd
  have HF := Lib.hid hfin
  clear hA hN hV hd hfin
  go_enter Tryz.func301, Tryz.ntmps301
  go_wp2_with (fail)
  refine (zcD hs (by omega) HA.out (Fld.new (by simp))).mono ?_
  rintro e w1 ⟨rfl, hF1, hO1⟩
  go_wp2_with (fail)
  refine (z3B hs hp1 HN.out hF1).mono ?_
  rintro e w2 ⟨rfl, hF2, hO2⟩
  go_wp2_with (fail)
  refine (z3B hs hp2 HV.out hF2).mono ?_
  rintro e w3 ⟨rfl, hF3, hO3⟩
  have hB3 := ((((Box.new w _ _).alloc _).only hO1 (by omega)).only hO2 (by omega)).only hO3 (by omega)
  have hb3 : Below w.heap.size w w3 := (((Below.refl _ w).alloc (Nat.le_refl _) _).alloc (by simp) _).trans ((hO1.below (by omega) (by simp; omega)).trans ((hO2.trans hO3).below (by omega) (by have := Box.lt hF1; omega)))
  have d0 : w3.cell? ⟨w.heap.size, 0, none⟩ = some (.int .i64 0) := hB3.cell 0
  have d1 : w3.cell? ⟨w.heap.size, 1, none⟩ = some (.string ⟨#[]⟩) := hB3.cell 1
  have d2 : w3.cell? ⟨w.heap.size, 2, none⟩ = some (.string ⟨#[]⟩) := hB3.cell 2
  have e0 := hB3.free 0
  have e1 := hB3.free 1
  have e2 := hB3.free 2
  have hz : w.heap.size + 1 < w3.heap.size := Box.lt hF3
  have hz0 : w.heap.size < w3.heap.size := by omega
  have hz1 : w.heap.size ≠ w3.heap.size := by omega
  have HB := Lib.hid hB3
  clear hB3
  go_wp2_with (fail)
  refine (z9K hs hp3 HD.out (hF3.alloc _)).mono ?_
  rintro e w4 ⟨rfl, nd, rfl⟩
  go_wp2
  refine bodyPost_ret (v := .tuple #[.agg #[.int .i64 0, .string ⟨#[]⟩, .string ⟨#[]⟩], .bool false]) ?_ rfl ⟨by rw [HF.out]; rfl, ?_⟩
  ·simp [results, Tryz.results301, go_sem, d0, d1, d2, hz0]
  ·exact (((z3L (hb3.alloc (by omega) _) nd).setCell (Nat.le_refl _) _).setCell (Nat.le_refl _) _).setCell (Nat.le_refl _) _
 ·cases ho : z0r a n v
  ·have hfin : z0I s.data.toList = none := by
    simp only [z0I, hA, hN, hV, z0l, hd, ho]; rfl
   have hoc := fun W => z6s (a : Int) (bs n) (bs v) W hnz hvz
   simp only [z0Q, ho] at hoc
   have HA := Lib.hid hA
   have HN := Lib.hid hN
   have HV := Lib.hid hV
   have HD := Lib.hid hd
   have HF := Lib.hid hfin
   have HO := Lib.hid ho
   have HC := Lib.hid hoc
   clear hA hN hV hd hfin ho hoc
   go_enter Tryz.func301, Tryz.ntmps301
   go_wp2_with (fail)
   refine (zcD hs (by omega) HA.out (Fld.new (by simp))).mono ?_
   rintro e w1 ⟨rfl, hF1, hO1⟩
   go_wp2_with (fail)
   refine (z3B hs hp1 HN.out hF1).mono ?_
   rintro e w2 ⟨rfl, hF2, hO2⟩
   go_wp2_with (fail)
   refine (z3B hs hp2 HV.out hF2).mono ?_
   rintro e w3 ⟨rfl, hF3, hO3⟩
   have hB3 := ((((Box.new w _ _).alloc _).only hO1 (by omega)).only hO2 (by omega)).only hO3 (by omega)
   have hb3 : Below w.heap.size w w3 := (((Below.refl _ w).alloc (Nat.le_refl _) _).alloc (by simp) _).trans ((hO1.below (by omega) (by simp; omega)).trans ((hO2.trans hO3).below (by omega) (by have := Box.lt hF1; omega)))
   have d0 : w3.cell? ⟨w.heap.size, 0, none⟩ = some (.int .i64 0) := hB3.cell 0
   have d1 : w3.cell? ⟨w.heap.size, 1, none⟩ = some (.string ⟨#[]⟩) := hB3.cell 1
   have d2 : w3.cell? ⟨w.heap.size, 2, none⟩ = some (.string ⟨#[]⟩) := hB3.cell 2
   have e0 := hB3.free 0
   have e1 := hB3.free 1
   have e2 := hB3.free 2
   have hz : w.heap.size + 1 < w3.heap.size := Box.lt hF3
   have hz0 : w.heap.size < w3.heap.size := by omega
   have hz1 : w.heap.size ≠ w3.heap.size := by omega
   have HB := Lib.hid hB3
   clear hB3
   go_wp2_with (fail)
   refine (z9K hs hp3 HD.out (hF3.alloc _)).mono ?_
   rintro e w4 ⟨rfl, nd, rfl⟩
   go_wp2_with (fail)
   refine (HC.out _).mono ?_
   rintro e w5 ⟨rfl, hb5⟩
   have hs5 := hb5.size
   simp only [World.heap_drewN, World.size_alloc] at hs5
   have h5 : ∀ i, w5.cell? ⟨w.heap.size, i, none⟩ = w3.cell? ⟨w.heap.size, i, none⟩ := fun i => (hb5.cell (p := ⟨w.heap.size, i, none⟩) (by simp; omega)).trans (World.cell?_alloc_lt w3 _ _ hz0)
   have g5 : ∀ i, w5.frozen? ⟨w.heap.size, i, none⟩ = false := fun i => (hb5.frozen (p := ⟨w.heap.size, i, none⟩) (by simp; omega)).trans (((HB.out.alloc _).drewN nd).free i)
   have k0 := (h5 0).trans d0
   have k1 := (h5 1).trans d1
   have k2 := (h5 2).trans d2
   have m0 := g5 0
   have m1 := g5 1
   have m2 := g5 2
   clear h5 g5
   go_wp2
   refine bodyPost_ret (v := .tuple #[.agg #[.int .i64 0, .string ⟨#[]⟩, .string ⟨#[]⟩], .bool false]) ?_ rfl ⟨by rw [HF.out]; rfl, ?_⟩
   ·simp [results, Tryz.results301, go_sem, k0, k1, k2]
   ·exact ((((z3L (hb3.alloc (by omega) _) nd).trans (hb5.mono (by simp; omega))).setCell (Nat.le_refl _) _).setCell (Nat.le_refl _) _).setCell (Nat.le_refl _) _
  ·have hfin : z0I s.data.toList = some (a, n, v) := by
    simp only [z0I, hA, hN, hV, z0l, hd, ho]; rfl
   have hoc := fun W => z6s (a : Int) (bs n) (bs v) W hnz hvz
   simp only [z0Q, ho] at hoc
   have HA := Lib.hid hA
   have HN := Lib.hid hN
   have HV := Lib.hid hV
   have HD := Lib.hid hd
   have HF := Lib.hid hfin
   have HO := Lib.hid ho
   have HC := Lib.hid hoc
   clear hA hN hV hd hfin ho hoc
   go_enter Tryz.func301, Tryz.ntmps301
   go_wp2_with (fail)
   refine (zcD hs (by omega) HA.out (Fld.new (by simp))).mono ?_
   rintro e w1 ⟨rfl, hF1, hO1⟩
   go_wp2_with (fail)
   refine (z3B hs hp1 HN.out hF1).mono ?_
   rintro e w2 ⟨rfl, hF2, hO2⟩
   go_wp2_with (fail)
   refine (z3B hs hp2 HV.out hF2).mono ?_
   rintro e w3 ⟨rfl, hF3, hO3⟩
   have hB3 := ((((Box.new w _ _).alloc _).only hO1 (by omega)).only hO2 (by omega)).only hO3 (by omega)
   have hb3 : Below w.heap.size w w3 := (((Below.refl _ w).alloc (Nat.le_refl _) _).alloc (by simp) _).trans ((hO1.below (by omega) (by simp; omega)).trans ((hO2.trans hO3).below (by omega) (by have := Box.lt hF1; omega)))
   have d0 : w3.cell? ⟨w.heap.size, 0, none⟩ = some (.int .i64 0) := hB3.cell 0
   have d1 : w3.cell? ⟨w.heap.size, 1, none⟩ = some (.string ⟨#[]⟩) := hB3.cell 1
   have d2 : w3.cell? ⟨w.heap.size, 2, none⟩ = some (.string ⟨#[]⟩) := hB3.cell 2
   have e0 := hB3.free 0
   have e1 := hB3.free 1
   have e2 := hB3.free 2
   have hz : w.heap.size + 1 < w3.heap.size := Box.lt hF3
   have hz0 : w.heap.size < w3.heap.size := by omega
   have hz1 : w.heap.size ≠ w3.heap.size := by omega
   have HB := Lib.hid hB3
   clear hB3
   go_wp2_with (fail)
   refine (z9K hs hp3 HD.out (hF3.alloc _)).mono ?_
   rintro e w4 ⟨rfl, nd, rfl⟩
   go_wp2_with (fail)
   refine (HC.out _).mono ?_
   rintro e w5 ⟨rfl, hb5⟩
   have hs5 := hb5.size
   simp only [World.heap_drewN, World.size_alloc] at hs5
   have h5 : ∀ i, w5.cell? ⟨w.heap.size, i, none⟩ = w3.cell? ⟨w.heap.size, i, none⟩ := fun i => (hb5.cell (p := ⟨w.heap.size, i, none⟩) (by simp; omega)).trans (World.cell?_alloc_lt w3 _ _ hz0)
   have g5 : ∀ i, w5.frozen? ⟨w.heap.size, i, none⟩ = false := fun i => (hb5.frozen (p := ⟨w.heap.size, i, none⟩) (by simp; omega)).trans (((HB.out.alloc _).drewN nd).free i)
   have k0 := (h5 0).trans d0
   have k1 := (h5 1).trans d1
   have k2 := (h5 2).trans d2
   have m0 := g5 0
   have m1 := g5 1
   have m2 := g5 2
   have hU : Box w5 w3.heap.size 234 #[.int .i64 (a : Int), .string (bs n), .string (bs v)] := ((Box.new w3 _ _).drewN nd).below hb5 (by simp)
   have u0 : w5.cell? ⟨w3.heap.size, 0, none⟩ = some (.int .i64 (a : Int)) := hU.cell 0
   have u1 : w5.cell? ⟨w3.heap.size, 1, none⟩ = some (.string (bs n)) := hU.cell 1
   have u2 : w5.cell? ⟨w3.heap.size, 2, none⟩ = some (.string (bs v)) := hU.cell 2
   clear h5 g5 hU
   go_wp2
   refine bodyPost_ret (v := .tuple #[.agg #[.int .i64 (a : Int), .string (bs n), .string (bs v)], .bool true]) ?_ rfl ⟨by rw [HF.out]; rfl, ?_⟩
   ·simp [results, Tryz.results301, go_sem, k0, k1, k2]
   ·exact ((((z3L (hb3.alloc (by omega) _) nd).trans (hb5.mono (by simp; omega))).setCell (Nat.le_refl _) _).setCell (Nat.le_refl _) _).setCell (Nat.le_refl _) _
def z1j (t : Bs) : Option (Nat × Bs × Bs) :=
 let (a, p1, b1) := numS t 0 false
 let (n, p2, b2) := z1q t p1 b1
 let (v, p3, b3) := z1q t p2 b2
 if b3 = false ∧ z0r a n v = true ∧ z17 a n v = t then some (a, n, v) else none
theorem z7u (s : ByteArray) (w : World) (hs : (s.size : Int) ≤ 1000000000) :
 Calls Tryz.prog 289 #[.string s] w fun e w' => e = .returned (zlI (z1j s.data.toList)) ∧ Below w.heap.size w w' := by
 rcases hA : numS s.data.toList 0 false with ⟨a, p1, b1⟩
 have hp1 := (zgW (t := s.data.toList) (p := 0) (bad := false) (by omega))
 rw [hA, z0l] at hp1
 rcases hN : z1q s.data.toList p1 b1 with ⟨n, p2, b2⟩
 have hp2 := (zaR (t := s.data.toList) (p := p1) (bad := b1) (by rw [z0l]; exact hp1.1))
 rw [hN, z0l] at hp2
 rcases hV : z1q s.data.toList p2 b2 with ⟨v, p3, b3⟩
 have hp3 := (zaR (t := s.data.toList) (p := p2) (bad := b2) (by rw [z0l]; exact hp2.1))
 rw [hV, z0l] at hp3
 simp only at hp1 hp2 hp3
 obtain ⟨hp1, ha⟩ := hp1
 obtain ⟨hp2, hn⟩ := hp2
 obtain ⟨hp3, hv⟩ := hp3
 have hnz : ((bs n).size : Int) ≤ 1000000000 := by rw [z0O]; omega
 have hvz : ((bs v).size : Int) ≤ 1000000000 := by rw [z0O]; omega
 have hdef : z1j s.data.toList = if b3 = false ∧ z0r a n v = true ∧ z17 a n v = s.data.toList then some (a, n, v) else none := by
  simp only [z1j, hA, hN, hV]
 have HA := Lib.hid hA
 have HN := Lib.hid hN
 have HV := Lib.hid hV
 have HD := Lib.hid hdef
 clear hA hN hV hdef
 go_enter Tryz.func289, Tryz.ntmps289
 go_wp2_with (fail)
 refine (zlH hs (by omega) HA.out (Cur.new (by simp))).mono ?_
 rintro e w1 ⟨rfl, hF1, hO1⟩
 have hR1 := ((Box.new w _ _).alloc _).only hO1 (by omega)
 have hb1 : Below w.heap.size w w1 := (((Below.refl _ w).alloc (Nat.le_refl _) _).alloc (by simp) _).trans (hO1.below (by omega) (by simp; omega))
 have hz1 : w.heap.size + 1 < w1.heap.size := Box.lt hF1
 have hz1' : w.heap.size < w1.heap.size := by omega
 go_wp2_with (fail)
 refine (zaZ hs hp1 HN.out (hF1.alloc _)).mono ?_
 rintro e w2 ⟨rfl, hF2, hO2⟩
 have hU2 := (Box.new w1 234 #[.int .i64 (a : Int), .string ⟨#[]⟩, .string ⟨#[]⟩]).only hO2 (by omega)
 have hR2 := (hR1.alloc (.cells #[.int .i64 (a : Int), .string ⟨#[]⟩, .string ⟨#[]⟩] 234)).only hO2 (by omega)
 have hb2 : Below w.heap.size w w2 := (hb1.alloc (by omega) _).trans (hO2.below (by omega) (by simp; omega))
 have x1 : w2.cell? ⟨w1.heap.size, 1, none⟩ = some (.string ⟨#[]⟩) := hU2.cell 1
 have y1 := hU2.free 1
 have hz2 : w1.heap.size < w2.heap.size := Box.lt hU2
 go_wp2_with (fail)
 refine (zaZ hs hp2 HV.out (hF2.far (by simp; omega) _)).mono ?_
 rintro e w3 ⟨rfl, hF3, hO3⟩
 have hU3 := (hU2.set 1 (.string (bs n))).only hO3 (by omega)
 have hR3 := (hR2.far (p := ⟨w1.heap.size, 1, none⟩) (by simp; omega) (.string (bs n))).only hO3 (by omega)
 have hb3 : Below w.heap.size w w3 := (hb2.setCell (p := ⟨w1.heap.size, 1, none⟩) (by simp; omega) (.string (bs n))).trans (hO3.below (by omega) (by simp [World.setCell]; omega))
 have x2 : w3.cell? ⟨w1.heap.size, 2, none⟩ = some (.string ⟨#[]⟩) := hU3.cell 2
 have x1' : w3.cell? ⟨w1.heap.size, 1, none⟩ = some (.string (bs n)) := hU3.cell 1
 have x0 : w3.cell? ⟨w1.heap.size, 0, none⟩ = some (.int .i64 (a : Int)) := hU3.cell 0
 have y2 := hU3.free 2
 have hz3 : w1.heap.size < w3.heap.size := Box.lt hU3
 have hU4 := hU3.set 2 (.string (bs v))
 have hR4 := hR3.far (p := ⟨w1.heap.size, 2, none⟩) (by simp; omega) (.string (bs v))
 have hF4 := hF3.far (p := ⟨w1.heap.size, 2, none⟩) (by simp; omega) (.string (bs v))
 have hb4 := hb3.setCell (p := ⟨w1.heap.size, 2, none⟩) (by simp; omega) (.string (bs v))
 have hz4 : w1.heap.size < (w3.setCell ⟨w1.heap.size, 2, none⟩ (.string (bs v))).heap.size := Box.lt hU4
 cases ho : z0r a n v
 ·have hfin : z1j s.data.toList = none := by rw [HD.out, if_neg (by rw [ho]; simp)]
  have hc := fun W => z8o (a : Int) (bs n) (bs v) W hnz hvz (by rw [z0Q, z0Q]; exact ho)
  have HO := Lib.hid ho
  have HF := Lib.hid hfin
  have HC := Lib.hid hc
  clear ho hfin hc
  go_wp2_with (fail)
  refine (HC.out _).mono ?_
  rintro e w5 ⟨rfl, hb5⟩
  have hR5 := hR4.below hb5 (by omega)
  have hC5 := hF4.below hb5 (by omega)
  have d2 : w5.cell? ⟨w.heap.size + 1, 2, none⟩ = some (.bool b3) := hC5.cell 2
  have k0 : w5.cell? ⟨w.heap.size, 0, none⟩ = some (.int .i64 0) := hR5.cell 0
  have k1 : w5.cell? ⟨w.heap.size, 1, none⟩ = some (.string ⟨#[]⟩) := hR5.cell 1
  have k2 : w5.cell? ⟨w.heap.size, 2, none⟩ = some (.string ⟨#[]⟩) := hR5.cell 2
  have m0 := hR5.free 0
  have m1 := hR5.free 1
  have m2 := hR5.free 2
  have hB5 := hb4.trans (hb5.mono (by omega))
  clear hR5 hC5 hR4 hF4 hU4 x1 y1 x2 x1' x0 y2
  cases b3
  all_goals
   go_wp2
   refine bodyPost_ret (v := .tuple #[.agg #[.int .i64 0, .string ⟨#[]⟩, .string ⟨#[]⟩], .bool false]) ?_ rfl ⟨by rw [HF.out]; rfl, ?_⟩
   ·simp [results, Tryz.results289, go_sem, k0, k1, k2]
   ·exact ((hB5.setCell (Nat.le_refl _) _).setCell (Nat.le_refl _) _).setCell (Nat.le_refl _) _
 ·have hc := fun W => z7t a (bs n) (bs v) W hnz hvz (by rw [z0Q, z0Q]; exact ho)
  simp only [z0Q] at hc
  have HO := Lib.hid ho
  have HC := Lib.hid hc
  clear ho hc
  go_wp2_with (fail)
  refine (HC.out _).mono ?_
  rintro e w5 ⟨rfl, hb5⟩
  have hR5 := hR4.below hb5 (by omega)
  have hU5 := hU4.below hb5 (by omega)
  have hC5 := hF4.below hb5 (by omega)
  have d2 : w5.cell? ⟨w.heap.size + 1, 2, none⟩ = some (.bool b3) := hC5.cell 2
  have k0 : w5.cell? ⟨w.heap.size, 0, none⟩ = some (.int .i64 0) := hR5.cell 0
  have k1 : w5.cell? ⟨w.heap.size, 1, none⟩ = some (.string ⟨#[]⟩) := hR5.cell 1
  have k2 : w5.cell? ⟨w.heap.size, 2, none⟩ = some (.string ⟨#[]⟩) := hR5.cell 2
  have m0 := hR5.free 0
  have m1 := hR5.free 1
  have m2 := hR5.free 2
  have u0 : w5.cell? ⟨w1.heap.size, 0, none⟩ = some (.int .i64 (a : Int)) := hU5.cell 0
  have u1 : w5.cell? ⟨w1.heap.size, 1, none⟩ = some (.string (bs n)) := hU5.cell 1
  have u2 : w5.cell? ⟨w1.heap.size, 2, none⟩ = some (.string (bs v)) := hU5.cell 2
  have hB5 := hb4.trans (hb5.mono (by omega))
  clear hR5 hC5 hR4 hF4 hU4 hU5 x1 y1 x2 x1' x0 y2
  cases b3
  ·by_cases heq : z17 a n v = s.data.toList
   ·have hfin : z1j s.data.toList = some (a, n, v) := by rw [HD.out, if_pos ⟨rfl, HO.out, heq⟩]
    have he : ((bs (z17 a n v)).toList == s.toList) = true := by rw [toList_data, toList_data, z0Q, beq_iff_eq]; exact heq
    have HE := Lib.hid heq
    have HF := Lib.hid hfin
    clear heq hfin
    go_wp2
    refine bodyPost_ret (v := .tuple #[.agg #[.int .i64 (a : Int), .string (bs n), .string (bs v)], .bool true]) ?_ rfl ⟨by rw [HF.out]; rfl, ?_⟩
    ·simp [results, Tryz.results289, go_sem, k0, k1, k2]
    ·exact ((hB5.setCell (Nat.le_refl _) _).setCell (Nat.le_refl _) _).setCell (Nat.le_refl _) _
   ·have hfin : z1j s.data.toList = none := by rw [HD.out, if_neg (by rintro ⟨_, _, h⟩; exact heq h)]
    have he : ((bs (z17 a n v)).toList == s.toList) = false := by rw [toList_data, toList_data, z0Q, beq_eq_false_iff_ne]; exact heq
    have HE := Lib.hid heq
    have HF := Lib.hid hfin
    clear heq hfin
    go_wp2
    refine bodyPost_ret (v := .tuple #[.agg #[.int .i64 0, .string ⟨#[]⟩, .string ⟨#[]⟩], .bool false]) ?_ rfl ⟨by rw [HF.out]; rfl, ?_⟩
    ·simp [results, Tryz.results289, go_sem, k0, k1, k2]
    ·exact ((hB5.setCell (Nat.le_refl _) _).setCell (Nat.le_refl _) _).setCell (Nat.le_refl _) _
  ·have hfin : z1j s.data.toList = none := by rw [HD.out, if_neg (by simp)]
   have HF := Lib.hid hfin
   clear hfin
   go_wp2
   refine bodyPost_ret (v := .tuple #[.agg #[.int .i64 0, .string ⟨#[]⟩, .string ⟨#[]⟩], .bool false]) ?_ rfl ⟨by rw [HF.out]; rfl, ?_⟩
   ·simp [results, Tryz.results289, go_sem, k0, k1, k2]
   ·exact ((hB5.setCell (Nat.le_refl _) _).setCell (Nat.le_refl _) _).setCell (Nat.le_refl _) _
end Go.Proofs.YthcfalipgnpelaaGreatDoor
namespace Go.Proofs.YthcfalipgnpelaaGreatDoor
set_option maxRecDepth 100000
set_option maxHeartbeats 800000
set_option linter.unusedVariables false
set_option linter.unusedSimpArgs false
set_option linter.unusedSectionVars false
open Go.RowKit Pl
theorem z7I {x : Nat} (hx : (x : Int) ≤ 4294967295) : (#[Value.int .u8 ((x : Int) / 16777216), .int .u8 ((x : Int) / 65536 % 256), .int .u8 ((x : Int) / 256 % 256), .int .u8 ((x : Int) % 256)]).toList = (z3O x).map bv := by
 simp [z3O, bv]; omega
theorem zcJ (x0 : Nat) (s : ByteArray) (w : World) (hs : (s.size : Int) ≤ 1000000000) (hx : (x0 : Int) ≤ 4294967295) :
 Calls Tryz.prog 323 #[.int .u32 (x0 : Int), .string s] w fun e w' => e = .returned (.int .u32 ((z2D x0 s.data.toList : Nat) : Int)) ∧ w = w' := by
 go_enter Tryz.func323, Tryz.ntmps323
 go_wp2
 go_loop [0, 5] (fun t i => ∃ k x : Nat, i = .int .i64 (k : Int) ∧ t = .int .u32 (x : Int) ∧ k ≤ s.size ∧ (x : Int) ≤ 4294967295 ∧ Hid (z2D x0 (s.data.toList.take k) = x)) (fun _ i => s.size - (intOf i).toNat)
 case atStart => exact ⟨0, x0, rfl, rfl, by omega, hx, Lib.hid (by simp [z2D])⟩
 case round =>
  obtain ⟨k, x, rfl, rfl, hk, hx1, HK⟩ := hrel
  by_cases hin : k < s.size
  ·have hnb := z6j s
   have hb1 := zan s k
   obtain ⟨b, hb, ht⟩ := z6o s k hin
   have HB := Lib.hid hb
   have HT := Lib.hid ht
   clear hb ht
   go_wp2
   go_loop [0, 19] (fun t i => ∃ j y : Nat, i = .int .i64 (j : Int) ∧ t = .int .u32 (y : Int) ∧ j ≤ 8 ∧ (y : Int) ≤ 4294967295 ∧ Hid (z5o j (x ^^^ nb s k) = y)) (fun _ i => 8 - (intOf i).toNat)
   case atStart => exact ⟨0, x ^^^ nb s k, rfl, congrArg (Value.int .u32) (xr32 hx1 (by omega)), by omega, z8U hx1 (by omega), Lib.hid rfl⟩
   case round =>
    obtain ⟨j, y, rfl, rfl, hj, hy, HY⟩ := hrel
    by_cases h8 : j < 8
    ·by_cases hodd : (y : Int) % 2 = 1
     ·have hod : (bits .and .u32 (y : Int) 1 == 1) = true := by rw [zdZ hy]; simp; omega
      have HS := Lib.hid (show z5o (j + 1) (x ^^^ nb s k) = (y / 2) ^^^ 3558460437 by rw [z5o, HY.out, zcz, if_pos (by omega)])
      go_wp2
      go_round
      case rel => exact ⟨j + 1, (y / 2) ^^^ 3558460437, by go_num, congrArg (Value.int .u32) (zaQ hy), by omega, z8U (by omega) (by omega), HS⟩
      case measure => simp [intOf]; omega
     ·have hod : (bits .and .u32 (y : Int) 1 == 1) = false := by rw [zdZ hy]; simp; omega
      have HS := Lib.hid (show z5o (j + 1) (x ^^^ nb s k) = y / 2 by rw [z5o, HY.out, zcz, if_neg (by omega)])
      go_wp2
      go_round
      case rel => exact ⟨j + 1, y / 2, by go_num, by go_num, by omega, by omega, HS⟩
      case measure => simp [intOf]; omega
    ·obtain rfl : j = 8 := by omega
     go_wp2
     go_round
     case rel => exact ⟨k + 1, y, by go_num, rfl, by omega, hy, Lib.hid (by rw [HT.out, z6n, HK.out, HB.out, HY.out])⟩
     case measure => simp [intOf]; omega
  ·go_wp2
   go_ret
   exact ⟨by rw [← HK.out, List.take_of_length_le (by rw [z0l]; omega)]; rfl, rfl⟩
theorem zhp (s : ByteArray) (w : World) (hs : (s.size : Int) ≤ 1000000000) :
 Calls Tryz.prog 281 #[.string s] w fun e w' => e = .returned (.int .u32 ((z44 s.data.toList : Nat) : Int)) ∧ w = w' := by
 have hc := zcJ 4294967295 s w hs (by omega)
 have HC := Lib.hid hc
 clear hc
 go_enter Tryz.func281, Tryz.ntmps281
 go_wp2_with (go_at_call 323; refine HC.out.mono ?_; rintro e w1 ⟨rfl, rfl⟩)
 go_ret
 exact ⟨rfl, rfl⟩
theorem z8r (x : Nat) (w : World) (hx : (x : Int) ≤ 4294967295) :
 Calls Tryz.prog 280 #[.int .u32 (x : Int)] w fun e w' => e = .returned (.string (bs (z3O x))) ∧ Below w.heap.size w w' := by
 have hcv := (Byt.lit w #[.int .u8 ((x : Int) / 16777216), .int .u8 ((x : Int) / 65536 % 256), .int .u8 ((x : Int) / 256 % 256), .int .u8 ((x : Int) % 256)] (z3O x) 4 rfl (z7I hx) (by simp [z3O])).string
 go_enter Tryz.func280, Tryz.ntmps280
 go_wp2
 go_ret
 exact ⟨rfl, (Below.refl _ w).alloc (Nat.le_refl _) _⟩
theorem zbb (x0 : Nat) (s : ByteArray) (w : World) (hs : (s.size : Int) ≤ 1000000000) (hx : (x0 : Int) ≤ 4294967295) :
 Calls Tryz.prog 336 #[.int .u32 (x0 : Int), .string s] w fun e w' => e = .returned (.int .u32 ((z2D x0 s.data.toList : Nat) : Int)) ∧ w = w' := by
 go_enter Tryz.func336, Tryz.ntmps336
 go_wp2
 go_loop [0, 5] (fun t i => ∃ k x : Nat, i = .int .i64 (k : Int) ∧ t = .int .u32 (x : Int) ∧ k ≤ s.size ∧ (x : Int) ≤ 4294967295 ∧ Hid (z2D x0 (s.data.toList.take k) = x)) (fun _ i => s.size - (intOf i).toNat)
 case atStart => exact ⟨0, x0, rfl, rfl, by omega, hx, Lib.hid (by simp [z2D])⟩
 case round =>
  obtain ⟨k, x, rfl, rfl, hk, hx1, HK⟩ := hrel
  by_cases hin : k < s.size
  ·have hnb := z6j s
   have hb1 := zan s k
   obtain ⟨b, hb, ht⟩ := z6o s k hin
   have HB := Lib.hid hb
   have HT := Lib.hid ht
   clear hb ht
   go_wp2
   go_loop [0, 6] (fun t i => ∃ j y : Nat, i = .int .i64 (j : Int) ∧ t = .int .u32 (y : Int) ∧ j ≤ 8 ∧ (y : Int) ≤ 4294967295 ∧ Hid (z5o j (x ^^^ nb s k) = y)) (fun _ i => 8 - (intOf i).toNat)
   case atStart => exact ⟨0, x ^^^ nb s k, rfl, congrArg (Value.int .u32) (xr32 hx1 (by omega)), by omega, z8U hx1 (by omega), Lib.hid rfl⟩
   case round =>
    obtain ⟨j, y, rfl, rfl, hj, hy, HY⟩ := hrel
    by_cases h8 : j < 8
    ·by_cases hodd : (y : Int) % 2 = 1
     ·have HS := Lib.hid (show z5o (j + 1) (x ^^^ nb s k) = (y / 2) ^^^ 3558460437 by rw [z5o, HY.out, zcz, if_pos (by omega)])
      go_wp2
      go_round
      case rel => exact ⟨j + 1, (y / 2) ^^^ 3558460437, by go_num, congrArg (Value.int .u32) (zaQ hy), by omega, z8U (by omega) (by omega), HS⟩
      case measure => simp [intOf]; omega
     ·have HS := Lib.hid (show z5o (j + 1) (x ^^^ nb s k) = y / 2 by rw [z5o, HY.out, zcz, if_neg (by omega)])
      go_wp2
      go_round
      case rel => exact ⟨j + 1, y / 2, by go_num, by go_num, by omega, by omega, HS⟩
      case measure => simp [intOf]; omega
    ·obtain rfl : j = 8 := by omega
     go_wp2
     go_round
     case rel => exact ⟨k + 1, y, by go_num, rfl, by omega, hy, Lib.hid (by rw [HT.out, z6n, HK.out, HB.out, HY.out])⟩
     case measure => simp [intOf]; omega
  ·go_wp2
   go_ret
   exact ⟨by rw [← HK.out, List.take_of_length_le (by rw [z0l]; omega)]; rfl, rfl⟩
theorem zfi (s : ByteArray) (w : World) (hs : (s.size : Int) ≤ 1000000000) :
 Calls Tryz.prog 321 #[.string s] w fun e w' => e = .returned (.int .u32 ((z44 s.data.toList : Nat) : Int)) ∧ w = w' := by
 have hc := zbb 4294967295 s w hs (by omega)
 have HC := Lib.hid hc
 clear hc
 go_enter Tryz.func321, Tryz.ntmps321
 go_wp2_with (go_at_call 336; refine HC.out.mono ?_; rintro e w1 ⟨rfl, rfl⟩)
 go_ret
 exact ⟨rfl, rfl⟩
theorem z7J (x : Nat) (w : World) (hx : (x : Int) ≤ 4294967295) :
 Calls Tryz.prog 320 #[.int .u32 (x : Int)] w fun e w' => e = .returned (.string (bs (z3O x))) ∧ Below w.heap.size w w' := by
 have hcv := (Byt.lit w #[.int .u8 ((x : Int) / 16777216), .int .u8 ((x : Int) / 65536 % 256), .int .u8 ((x : Int) / 256 % 256), .int .u8 ((x : Int) % 256)] (z3O x) 4 rfl (z7I hx) (by simp [z3O])).string
 go_enter Tryz.func320, Tryz.ntmps320
 go_wp2
 go_ret
 exact ⟨rfl, (Below.refl _ w).alloc (Nat.le_refl _) _⟩
end Go.Proofs.YthcfalipgnpelaaGreatDoor
