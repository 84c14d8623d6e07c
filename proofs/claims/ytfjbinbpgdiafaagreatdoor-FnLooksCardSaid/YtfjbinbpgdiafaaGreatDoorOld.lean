/- Changes: the tests, the texts, the readers of both sides, and the law that they agree. The program's reader of fields: each of its methods, the reader's block known whole. The reference's reader of fields: each of its functions, the reader's block known whole. Changes: what both readers read. Checksums: what both sides' functions compute. -/
import Derived.Test.YtfjbinbpgdiafaaGreatDoorWa
import Derived.Deep.RegionHeld3
import Derived.Test.YtfjbinbpgdiafaaGreatDoorPlainM
namespace Go.Proofs.YtfjbinbpgdiafaaGreatDoor
set_option maxRecDepth 100000
set_option maxHeartbeats 400000
set_option linter.unusedVariables false
set_option linter.unusedSimpArgs false
set_option linter.unusedSectionVars false
open Go.RowKit Pl
def z0g (id : Int) (n v : Bs) : Bool := (decide (1 ≤ id) && decide (id ≤ 99)) && z0C n && (v.isEmpty || z0O v)
theorem z4X (id : Int) (n v : ByteArray) (w : World) (hn : (n.size : Int) ≤ 1000000000) (hv : (v.size : Int) ≤ 1000000000) :
 Calls Tryz.prog 192 #[.agg #[.int .i64 id, .string n, .string v]] w fun e w' => e = .returned (.bool (z0g id n.data.toList v.data.toList)) ∧ Below w.heap.size w w' := by
 by_cases hid : 1 ≤ id ∧ id ≤ 99
 ·obtain ⟨h1, h2⟩ := hid
  cases hN : z0C n.data.toList
  ·have hfin : z0g id n.data.toList v.data.toList = false := by rw [z0g, hN]; simp
   have HF := Lib.hid hfin
   clear hfin
   go_enter Tryz.func192, Tryz.ntmps192
   go_wp2_with (first | (go_at_call 34; refine (z5O _ _ _ _ h1 h2).mono ?_; rintro e w1 ⟨rfl, rfl⟩) | (go_at_call 36; refine (z4E _ _ hn).mono ?_; rintro e w1 ⟨rfl, rfl⟩))
   go_ret
   exact ⟨by rw [HF.out]; rfl, (Below.refl _ _).alloc (Nat.le_refl _) _⟩
  ·cases hE : v.toList.isEmpty
   ·have hfin : z0g id n.data.toList v.data.toList = z0O v.data.toList := by rw [toList_data] at hE; rw [z0g, hN, hE]; simp [h1, h2]
    have HF := Lib.hid hfin
    clear hfin
    go_enter Tryz.func192, Tryz.ntmps192
    go_wp2_with (first | (go_at_call 34; refine (z5O _ _ _ _ h1 h2).mono ?_; rintro e w1 ⟨rfl, rfl⟩) | (go_at_call 36; refine (z4E _ _ hn).mono ?_; rintro e w1 ⟨rfl, rfl⟩) | (go_at_call 123; refine (z9J _ _ hv).mono ?_; rintro e w1 ⟨rfl, rfl⟩))
    go_ret
    exact ⟨by rw [HF.out]; rfl, (Below.refl _ _).alloc (Nat.le_refl _) _⟩
   ·have hfin : z0g id n.data.toList v.data.toList = true := by rw [toList_data] at hE; rw [z0g, hN, hE]; simp [h1, h2]
    have HF := Lib.hid hfin
    clear hfin
    go_enter Tryz.func192, Tryz.ntmps192
    go_wp2_with (first | (go_at_call 34; refine (z5O _ _ _ _ h1 h2).mono ?_; rintro e w1 ⟨rfl, rfl⟩) | (go_at_call 36; refine (z4E _ _ hn).mono ?_; rintro e w1 ⟨rfl, rfl⟩))
    go_ret
    exact ⟨by rw [HF.out]; rfl, (Below.refl _ _).alloc (Nat.le_refl _) _⟩
 ·have hfin : z0g id n.data.toList v.data.toList = false := by
   rw [z0g]
   have : (decide (1 ≤ id) && decide (id ≤ 99)) = false := by simp; omega
   rw [this]; simp
  have HF := Lib.hid hfin
  clear hfin
  go_enter Tryz.func192, Tryz.ntmps192
  go_wp2_with (go_at_call 34; refine (zeZ _ _ _ _ hid).mono ?_; rintro e w1 ⟨rfl, rfl⟩)
  go_ret
  exact ⟨by rw [HF.out]; rfl, (Below.refl _ _).alloc (Nat.le_refl _) _⟩
theorem z2Q (id : Int) (n v : ByteArray) (w : World) (hn : (n.size : Int) ≤ 1000000000) (hv : (v.size : Int) ≤ 1000000000) :
 Calls Tryz.prog 149 #[.agg #[.int .i64 id, .string n, .string v]] w fun e w' => e = .returned (.bool (z0g id n.data.toList v.data.toList)) ∧ Below w.heap.size w w' := by
 by_cases hid : 1 ≤ id ∧ id ≤ 99
 ·obtain ⟨h1, h2⟩ := hid
  cases hN : z0C n.data.toList
  ·have hfin : z0g id n.data.toList v.data.toList = false := by rw [z0g, hN]; simp
   have HF := Lib.hid hfin
   clear hfin
   go_enter Tryz.func149, Tryz.ntmps149
   go_wp2_with (first | (go_at_call 39; refine (z3O _ _ _ _ h1 h2).mono ?_; rintro e w1 ⟨rfl, rfl⟩) | (go_at_call 114; refine (z3P _ _ hn).mono ?_; rintro e w1 ⟨rfl, rfl⟩))
   go_ret
   exact ⟨by rw [HF.out]; rfl, (Below.refl _ _).alloc (Nat.le_refl _) _⟩
  ·cases hE : v.toList.isEmpty
   ·have hfin : z0g id n.data.toList v.data.toList = z0O v.data.toList := by rw [toList_data] at hE; rw [z0g, hN, hE]; simp [h1, h2]
    have HF := Lib.hid hfin
    clear hfin
    go_enter Tryz.func149, Tryz.ntmps149
    go_wp2_with (first | (go_at_call 39; refine (z3O _ _ _ _ h1 h2).mono ?_; rintro e w1 ⟨rfl, rfl⟩) | (go_at_call 114; refine (z3P _ _ hn).mono ?_; rintro e w1 ⟨rfl, rfl⟩) | (go_at_call 131; refine (z8w _ _ hv).mono ?_; rintro e w1 ⟨rfl, rfl⟩))
    go_ret
    exact ⟨by rw [HF.out]; rfl, (Below.refl _ _).alloc (Nat.le_refl _) _⟩
   ·have hfin : z0g id n.data.toList v.data.toList = true := by rw [toList_data] at hE; rw [z0g, hN, hE]; simp [h1, h2]
    have HF := Lib.hid hfin
    clear hfin
    go_enter Tryz.func149, Tryz.ntmps149
    go_wp2_with (first | (go_at_call 39; refine (z3O _ _ _ _ h1 h2).mono ?_; rintro e w1 ⟨rfl, rfl⟩) | (go_at_call 114; refine (z3P _ _ hn).mono ?_; rintro e w1 ⟨rfl, rfl⟩))
    go_ret
    exact ⟨by rw [HF.out]; rfl, (Below.refl _ _).alloc (Nat.le_refl _) _⟩
 ·have hfin : z0g id n.data.toList v.data.toList = false := by
   rw [z0g]
   have : (decide (1 ≤ id) && decide (id ≤ 99)) = false := by simp; omega
   rw [this]; simp
  have HF := Lib.hid hfin
  clear hfin
  go_enter Tryz.func149, Tryz.ntmps149
  go_wp2_with (go_at_call 39; refine (zb3 _ _ _ _ hid).mono ?_; rintro e w1 ⟨rfl, rfl⟩)
  go_ret
  exact ⟨by rw [HF.out]; rfl, (Below.refl _ _).alloc (Nat.le_refl _) _⟩
def z0t (id : Int) (n v : Bs) : Bs := z03 id.toNat ++ z0m n ++ z0m v
theorem z6w (id : Int) (n v : ByteArray) (w : World) (hn : (n.size : Int) ≤ 1000000000) (hv : (v.size : Int) ≤ 1000000000) (ho : z0g id n.data.toList v.data.toList = false) :
 Calls Tryz.prog 151 #[.agg #[.int .i64 id, .string n, .string v]] w fun e w' => e = .returned (.tuple #[.string (bs []), .bool false]) ∧ Below w.heap.size w w' := by
 go_enter Tryz.func151, Tryz.ntmps151
 go_wp2_with (go_at_call 149; refine (z2Q _ _ _ _ hn hv).mono ?_; rintro e w1 ⟨rfl, hb1⟩)
 go_ret2
 exact ⟨rfl, ((Below.refl _ w).alloc (Nat.le_refl _) _).trans (hb1.mono (by simp))⟩
theorem z5W (id : Nat) (n v : ByteArray) (w : World) (hn : (n.size : Int) ≤ 1000000000) (hv : (v.size : Int) ≤ 1000000000) (ho : z0g (id : Int) n.data.toList v.data.toList = true) :
 Calls Tryz.prog 151 #[.agg #[.int .i64 (id : Int), .string n, .string v]] w fun e w' => e = .returned (.tuple #[.string (bs (z0t (id : Int) n.data.toList v.data.toList)), .bool true]) ∧ Below w.heap.size w w' := by
 have hi : (id : Int) ≤ 99 := by
  unfold z0g at ho
  simp at ho; omega
 have l1 := z0N (n := id) (by omega)
 have l2 := z0N (n := n.size) (by omega)
 have l3 := z0N (n := v.size) (by omega)
 rw [← z0M] at l1 l2 l3
 have q1 : ¬ (9223372036854775807 < (bs (z03 id)).size + (bs (z03 n.size)).size) := by omega
 have q2 : ¬ (9223372036854775807 < (bs (z03 id)).size + (bs (z03 n.size)).size + n.size) := by omega
 have q3 : ¬ (9223372036854775807 < (bs (z03 id)).size + (bs (z03 n.size)).size + n.size + (bs (z03 v.size)).size) := by omega
 have q4 : ¬ (9223372036854775807 < (bs (z03 id)).size + (bs (z03 n.size)).size + n.size + (bs (z03 v.size)).size + v.size) := by omega
 go_enter Tryz.func151, Tryz.ntmps151
 go_wp2_with (go_at_call 149; refine (z2Q _ _ _ _ hn hv).mono ?_; rintro e w1 ⟨rfl, hb1⟩)
 have hB1 : Below w.heap.size w w1 := ((Below.refl _ w).alloc (Nat.le_refl _) _).trans (hb1.mono (by simp))
 have hX1 := (Box.new w 134 #[.int .i64 (id : Int), .string n, .string v]).below hb1 (by simp)
 go_region_held3 (fun W => Below w.heap.size w W ∧ Box W w.heap.size 134 #[.int .i64 (id : Int), .string n, .string v] ∧ W.cell? ⟨w.heap.size, 0, none⟩ = some (.int .i64 (id : Int)) ∧ W.cell? ⟨w.heap.size, 1, none⟩ = some (.string n) ∧ W.cell? ⟨w.heap.size, 2, none⟩ = some (.string v)) (first | exact ⟨hB1.drew, hX1.drew, hX1.drew.cell 0, hX1.drew.cell 1, hX1.drew.cell 2⟩ | assumption | exact zdi (by assumption) hb) (first | (go_at_call 132; refine (z5g _ _ (by omega)).mono ?_; rintro e w2 ⟨rfl, hb⟩) | fail)
 rename Below _ _ _ ∧ _ => hH
 have hB2 := hH.1
 clear hH
 go_wp2
 go_ret2
 refine ⟨?_, hB2⟩
 have e1 : bs (z03 id) ++ bs (z03 n.size) ++ n ++ bs (z03 v.size) ++ v = bs (z0t (id : Int) n.data.toList v.data.toList) := by
  refine z54 ?_
  simp only [data_append, z0S, z0t, z0m, z0w, Int.toNat_natCast, List.append_assoc]
 rw [← e1]; rfl
end Go.Proofs.YtfjbinbpgdiafaaGreatDoor
namespace Go.Proofs.YtfjbinbpgdiafaaGreatDoor
set_option maxRecDepth 100000
set_option maxHeartbeats 400000
set_option linter.unusedVariables false
set_option linter.unusedSimpArgs false
set_option linter.unusedSectionVars false
open Go.RowKit Pl
def Fld (w : World) (g : Nat) (s : ByteArray) (p : Nat) (bad : Bool) : Prop := Box w g 117 #[.string s, .int .i64 (p : Int), .bool bad]
theorem Fld.c0 {w : World} {g : Nat} {s : ByteArray} {p : Nat} {bad : Bool} (h : Fld w g s p bad) : w.cell? ⟨g, 0, none⟩ = some (.string s) := Box.cell h 0
theorem Fld.c1 {w : World} {g : Nat} {s : ByteArray} {p : Nat} {bad : Bool} (h : Fld w g s p bad) : w.cell? ⟨g, 1, none⟩ = some (.int .i64 (p : Int)) := Box.cell h 1
theorem Fld.c2 {w : World} {g : Nat} {s : ByteArray} {p : Nat} {bad : Bool} (h : Fld w g s p bad) : w.cell? ⟨g, 2, none⟩ = some (.bool bad) := Box.cell h 2
theorem zf7 (g : Nat) (s : ByteArray) (p : Nat) (bad : Bool) (w : World) (hs : (s.size : Int) ≤ 1000000000) (hp : p ≤ s.size) (hF : Fld w g s p bad) :
 Calls Tryz.prog 85 #[.pointer (some ⟨g, 0, none⟩)] w fun e w' => e = .returned (.int .i64 ((z1J s.data.toList p bad).1 : Int)) ∧ Fld w' g s (z1J s.data.toList p bad).2.1 (z1J s.data.toList p bad).2.2 ∧ Only g w w' := by
 have c0 := hF.c0
 have c1 := hF.c1
 have c2 := hF.c2
 have f1 : w.frozen? ⟨g, 1, none⟩ = false := Box.free hF 1
 have f2 : w.frozen? ⟨g, 2, none⟩ = false := Box.free hF 2
 have HF := Lib.hid hF
 clear hF
 rcases hr : z0u s.data.toList p with _ | ⟨n, q⟩
 ·have hfin : z1J s.data.toList p bad = (0, p, true) := by rw [z1J, hr]
  have HR := Lib.hid hr
  have HN := Lib.hid hfin
  clear hr hfin
  go_enter Tryz.func85, Tryz.ntmps85
  go_wp2
  go_quiet ((go_at_call 135; exact z7x (z4Q _ hs hp HR.out)))
  go_wp2
  go_ret
  rw [HN.out]
  exact ⟨rfl, Box.set (HF.out.drewN _) 2 _, ((Only.refl g w).drewN _).set (.inl rfl) _⟩
 ·have hfin : z1J s.data.toList p bad = (n, q, bad) := by rw [z1J, hr]
  have HR := Lib.hid hr
  have HN := Lib.hid hfin
  clear hr hfin
  go_enter Tryz.func85, Tryz.ntmps85
  go_wp2
  go_quiet ((go_at_call 135; exact z7x (z2n _ hs hp HR.out)))
  go_wp2
  go_ret
  rw [HN.out]
  exact ⟨rfl, Box.set (HF.out.drewN _) 1 _, ((Only.refl g w).drewN _).set (.inl rfl) _⟩
theorem zc2 (g : Nat) (s : ByteArray) (p : Nat) (bad : Bool) (w : World) (hs : (s.size : Int) ≤ 1000000000) (hp : p ≤ s.size) (hF : Fld w g s p bad) :
 Calls Tryz.prog 86 #[.pointer (some ⟨g, 0, none⟩)] w fun e w' => e = .returned (.string (bs (z0T s.data.toList p bad).1)) ∧ Fld w' g s (z0T s.data.toList p bad).2.1 (z0T s.data.toList p bad).2.2 ∧ Only g w w' := by
 have c0 := hF.c0
 have c1 := hF.c1
 have c2 := hF.c2
 have f1 : w.frozen? ⟨g, 1, none⟩ = false := Box.free hF 1
 have f2 : w.frozen? ⟨g, 2, none⟩ = false := Box.free hF 2
 have HF := Lib.hid hF
 clear hF
 rcases hr : z0J s.data.toList p with _ | ⟨l, q⟩
 ·have hfin : z0T s.data.toList p bad = ([], p, true) := by rw [z0T, hr]
  have HR := Lib.hid hr
  have HN := Lib.hid hfin
  clear hr hfin
  go_enter Tryz.func86, Tryz.ntmps86
  go_wp2
  go_quiet ((go_at_call 136; exact z7x (z6u _ hs hp HR.out)))
  go_wp2
  go_ret
  rw [HN.out]
  exact ⟨rfl, Box.set (HF.out.drewN _) 2 _, ((Only.refl g w).drewN _).set (.inl rfl) _⟩
 ·have hfin : z0T s.data.toList p bad = (l, q, bad) := by rw [z0T, hr]
  have HR := Lib.hid hr
  have HN := Lib.hid hfin
  clear hr hfin
  go_enter Tryz.func86, Tryz.ntmps86
  go_wp2
  go_quiet ((go_at_call 136; exact z7x (z6v _ hs hp HR.out)))
  go_wp2
  go_ret
  rw [HN.out]
  exact ⟨rfl, Box.set (HF.out.drewN _) 1 _, ((Only.refl g w).drewN _).set (.inl rfl) _⟩
theorem zdA (g : Nat) (s : ByteArray) (p : Nat) (bad : Bool) (w : World) (hs : (s.size : Int) ≤ 1000000000) (hp : p ≤ s.size) (hF : Fld w g s p bad) :
 Calls Tryz.prog 90 #[.pointer (some ⟨g, 0, none⟩)] w fun e w' => e = .returned (.bool (z2d bad p s.size)) ∧ ∃ n, w' = w.drewN n := by
 have c0 := hF.c0
 have c1 := hF.c1
 have c2 := hF.c2
 clear hF
 cases bad
 ·by_cases h : p = s.size
  ·have h1 : ((p : Int) == (s.size : Int)) = true := by simp [h]
   have h2 : z2d false p s.size = true := by simp [z2d, h]
   have H2 := Lib.hid h2
   clear h h2
   go_enter Tryz.func90, Tryz.ntmps90
   go_wp2
   go_quiet (fail)
   go_wp2
   go_ret
   exact ⟨by rw [H2.out]; rfl, _, rfl⟩
  ·have h1 : ((p : Int) == (s.size : Int)) = false := by simp; omega
   have h2 : z2d false p s.size = false := by simp [z2d, h]
   have H2 := Lib.hid h2
   clear h h2
   go_enter Tryz.func90, Tryz.ntmps90
   go_wp2
   go_quiet (fail)
   go_wp2
   go_ret
   exact ⟨by rw [H2.out]; rfl, _, rfl⟩
 ·go_enter Tryz.func90, Tryz.ntmps90
  go_wp2
  go_quiet (fail)
  go_wp2
  go_ret
  exact ⟨rfl, _, rfl⟩
section
variable {g : Nat} {s : ByteArray} {p q n : Nat} {bad b : Bool} {l : Bs} {w : World} (hs : (s.size : Int) ≤ 1000000000) (hp : p ≤ s.size)
include hs hp
theorem z9M (h : z1J s.data.toList p bad = (n, q, b)) (hF : Fld w g s p bad) :
 Calls Tryz.prog 85 #[.pointer (some ⟨g, 0, none⟩)] w fun e w' => e = .returned (.int .i64 (n : Int)) ∧ Fld w' g s q b ∧ Only g w w' := by
 have := zf7 g s p bad w hs hp hF
 rw [h] at this; exact this
theorem z2E (h : z0T s.data.toList p bad = (l, q, b)) (hF : Fld w g s p bad) :
 Calls Tryz.prog 86 #[.pointer (some ⟨g, 0, none⟩)] w fun e w' => e = .returned (.string (bs l)) ∧ Fld w' g s q b ∧ Only g w w' := by
 have := zc2 g s p bad w hs hp hF
 rw [h] at this; exact this
theorem z7E {d : Bool} (h : z2d bad p s.size = d) (hF : Fld w g s p bad) :
 Calls Tryz.prog 90 #[.pointer (some ⟨g, 0, none⟩)] w fun e w' => e = .returned (.bool d) ∧ ∃ n, w' = w.drewN n := by
 have := zdA g s p bad w hs hp hF
 rw [h] at this; exact this
end
theorem Fld.new {w : World} {g : Nat} {s : ByteArray} (h : g = w.heap.size) : Fld (w.alloc (.cells #[.string s, .int .i64 0, .bool false] 117)) g s 0 false := by subst h; exact Box.new w _ _
end Go.Proofs.YtfjbinbpgdiafaaGreatDoor
namespace Go.Proofs.YtfjbinbpgdiafaaGreatDoor
set_option linter.unusedVariables false
set_option linter.unusedSimpArgs false
set_option linter.unusedSectionVars false
open Go.RowKit Pl
def Cur (w : World) (g : Nat) (s : ByteArray) (p : Nat) (bad : Bool) : Prop := Box w g 126 #[.string s, .int .i64 (p : Int), .bool bad]
theorem Cur.c0 {w : World} {g : Nat} {s : ByteArray} {p : Nat} {bad : Bool} (h : Cur w g s p bad) : w.cell? ⟨g, 0, none⟩ = some (.string s) := Box.cell h 0
theorem Cur.c1 {w : World} {g : Nat} {s : ByteArray} {p : Nat} {bad : Bool} (h : Cur w g s p bad) : w.cell? ⟨g, 1, none⟩ = some (.int .i64 (p : Int)) := Box.cell h 1
theorem Cur.c2 {w : World} {g : Nat} {s : ByteArray} {p : Nat} {bad : Bool} (h : Cur w g s p bad) : w.cell? ⟨g, 2, none⟩ = some (.bool bad) := Box.cell h 2
section
variable {g : Nat} {s : ByteArray} {p q n : Nat} {z : Int} {bad b : Bool} {l : Bs} {w : World} (hs : (s.size : Int) ≤ 1000000000) (hp : p ≤ s.size)
include hs hp
end
theorem Cur.new {w : World} {g : Nat} {s : ByteArray} {b : Bool} (h : g = w.heap.size) : Cur (w.alloc (.cells #[.string s, .int .i64 0, .bool b] 126)) g s 0 b := by subst h; exact Box.new w _ _
end Go.Proofs.YtfjbinbpgdiafaaGreatDoor
namespace Go.Proofs.YtfjbinbpgdiafaaGreatDoor
set_option linter.unusedVariables false
set_option linter.unusedSimpArgs false
set_option linter.unusedSectionVars false
open Go.RowKit Pl
def z0E (t : Bs) : Option (Nat × Bs × Bs) :=
 let (a, p1, b1) := z1J t 0 false
 let (n, p2, b2) := z0T t p1 b1
 let (v, p3, b3) := z0T t p2 b2
 if z2d b3 p3 t.length && z0g a n v then some (a, n, v) else none
def rcVal : Option (Nat × Bs × Bs) → Value
 | none => .tuple #[.agg #[.int .i64 0, .string (bs []), .string (bs [])], .bool false]
 | some (a, n, v) => .tuple #[.agg #[.int .i64 (a : Int), .string (bs n), .string (bs v)], .bool true]
set_option maxRecDepth 100000 in
set_option maxHeartbeats 400000 in
theorem z6x (s : ByteArray) (w : World) (hs : (s.size : Int) ≤ 1000000000) :
 Calls Tryz.prog 164 #[.string s] w fun e w' => e = .returned (rcVal (z0E s.data.toList)) ∧ Below w.heap.size w w' := by
 rcases hA : z1J s.data.toList 0 false with ⟨a, p1, b1⟩
 have hp1 := (z55 (t := s.data.toList) (p := 0) (bad := false) (by omega))
 rw [hA, z0w] at hp1
 rcases hN : z0T s.data.toList p1 b1 with ⟨n, p2, b2⟩
 have hp2 := (z6I (t := s.data.toList) (p := p1) (bad := b1) (by rw [z0w]; exact hp1.1))
 rw [hN, z0w] at hp2
 rcases hV : z0T s.data.toList p2 b2 with ⟨v, p3, b3⟩
 have hp3 := (z6I (t := s.data.toList) (p := p2) (bad := b2) (by rw [z0w]; exact hp2.1))
 rw [hV, z0w] at hp3
 simp only at hp1 hp2 hp3
 obtain ⟨hp1, ha⟩ := hp1
 obtain ⟨hp2, hn⟩ := hp2
 obtain ⟨hp3, hv⟩ := hp3
 have hnz : ((bs n).size : Int) ≤ 1000000000 := by rw [z0M]; omega
 have hvz : ((bs v).size : Int) ≤ 1000000000 := by rw [z0M]; omega
 cases hd : z2d b3 p3 s.size
 ·have hfin : z0E s.data.toList = none := by
   simp only [z0E, hA, hN, hV, z0w, hd]; rfl
  have HA := Lib.hid hA
  have HN := Lib.hid hN
  have HV := Lib.hid hV
  have HD := Lib.hid hd
  have HF := Lib.hid hfin
  clear hA hN hV hd hfin
  go_enter Tryz.func164, Tryz.ntmps164
  go_wp2_with (fail)
  refine (z9M hs (by omega) HA.out (Fld.new (by simp))).mono ?_
  rintro e w1 ⟨rfl, hF1, hO1⟩
  go_wp2_with (fail)
  refine (z2E hs hp1 HN.out hF1).mono ?_
  rintro e w2 ⟨rfl, hF2, hO2⟩
  go_wp2_with (fail)
  refine (z2E hs hp2 HV.out hF2).mono ?_
  rintro e w3 ⟨rfl, hF3, hO3⟩
  have hB3 := ((((Box.new w _ _).alloc _).only hO1 (by omega)).only hO2 (by omega)).only hO3 (by omega)
  have hb3 : Below w.heap.size w w3 := (((Below.refl _ w).alloc (Nat.le_refl _) _).alloc (by simp) _).trans ((hO1.below (by omega) (by simp; omega)).trans ((hO2.trans hO3).below (by omega) (by have := Box.lt hF1; omega)))
  have d0 : w3.cell? ⟨w.heap.size, 0, none⟩ = some (.int .i64 0) := hB3.cell 0
  have d1 : w3.cell? ⟨w.heap.size, 1, none⟩ = some (.string ⟨#[]⟩) := hB3.cell 1
  have d2 : w3.cell? ⟨w.heap.size, 2, none⟩ = some (.string ⟨#[]⟩) := hB3.cell 2
  have e0 := hB3.free 0
  have e1 := hB3.free 1
  have e2 := hB3.free 2
  have hz : w.heap.size + 1 < w3.heap.size := Box.lt hF3
  have hz0 : w.heap.size < w3.heap.size := by omega
  have hz1 : w.heap.size ≠ w3.heap.size := by omega
  have HB := Lib.hid hB3
  clear hB3
  go_wp2_with (fail)
  refine (z7E hs hp3 HD.out (hF3.alloc _)).mono ?_
  rintro e w4 ⟨rfl, nd, rfl⟩
  go_wp2
  refine bodyPost_ret (v := .tuple #[.agg #[.int .i64 0, .string ⟨#[]⟩, .string ⟨#[]⟩], .bool false]) ?_ rfl ⟨by rw [HF.out]; rfl, ?_⟩
  ·simp [results, Tryz.results164, go_sem, d0, d1, d2, hz0]
  ·exact (((z2N (hb3.alloc (by omega) _) nd).setCell (Nat.le_refl _) _).setCell (Nat.le_refl _) _).setCell (Nat.le_refl _) _
 ·cases ho : z0g a n v
  ·have hfin : z0E s.data.toList = none := by
    simp only [z0E, hA, hN, hV, z0w, hd, ho]; rfl
   have hoc := fun W => z4X (a : Int) (bs n) (bs v) W hnz hvz
   simp only [z0S, ho] at hoc
   have HA := Lib.hid hA
   have HN := Lib.hid hN
   have HV := Lib.hid hV
   have HD := Lib.hid hd
   have HF := Lib.hid hfin
   have HO := Lib.hid ho
   have HC := Lib.hid hoc
   clear hA hN hV hd hfin ho hoc
   go_enter Tryz.func164, Tryz.ntmps164
   go_wp2_with (fail)
   refine (z9M hs (by omega) HA.out (Fld.new (by simp))).mono ?_
   rintro e w1 ⟨rfl, hF1, hO1⟩
   go_wp2_with (fail)
   refine (z2E hs hp1 HN.out hF1).mono ?_
   rintro e w2 ⟨rfl, hF2, hO2⟩
   go_wp2_with (fail)
   refine (z2E hs hp2 HV.out hF2).mono ?_
   rintro e w3 ⟨rfl, hF3, hO3⟩
   have hB3 := ((((Box.new w _ _).alloc _).only hO1 (by omega)).only hO2 (by omega)).only hO3 (by omega)
   have hb3 : Below w.heap.size w w3 := (((Below.refl _ w).alloc (Nat.le_refl _) _).alloc (by simp) _).trans ((hO1.below (by omega) (by simp; omega)).trans ((hO2.trans hO3).below (by omega) (by have := Box.lt hF1; omega)))
   have d0 : w3.cell? ⟨w.heap.size, 0, none⟩ = some (.int .i64 0) := hB3.cell 0
   have d1 : w3.cell? ⟨w.heap.size, 1, none⟩ = some (.string ⟨#[]⟩) := hB3.cell 1
   have d2 : w3.cell? ⟨w.heap.size, 2, none⟩ = some (.string ⟨#[]⟩) := hB3.cell 2
   have e0 := hB3.free 0
   have e1 := hB3.free 1
   have e2 := hB3.free 2
   have hz : w.heap.size + 1 < w3.heap.size := Box.lt hF3
   have hz0 : w.heap.size < w3.heap.size := by omega
   have hz1 : w.heap.size ≠ w3.heap.size := by omega
   have HB := Lib.hid hB3
   clear hB3
   go_wp2_with (fail)
   refine (z7E hs hp3 HD.out (hF3.alloc _)).mono ?_
   rintro e w4 ⟨rfl, nd, rfl⟩
   go_wp2_with (fail)
   refine (HC.out _).mono ?_
   rintro e w5 ⟨rfl, hb5⟩
   have hs5 := hb5.size
   simp only [World.heap_drewN, World.size_alloc] at hs5
   have h5 : ∀ i, w5.cell? ⟨w.heap.size, i, none⟩ = w3.cell? ⟨w.heap.size, i, none⟩ := fun i => (hb5.cell (p := ⟨w.heap.size, i, none⟩) (by simp; omega)).trans (World.cell?_alloc_lt w3 _ _ hz0)
   have g5 : ∀ i, w5.frozen? ⟨w.heap.size, i, none⟩ = false := fun i => (hb5.frozen (p := ⟨w.heap.size, i, none⟩) (by simp; omega)).trans (((HB.out.alloc _).drewN nd).free i)
   have k0 := (h5 0).trans d0
   have k1 := (h5 1).trans d1
   have k2 := (h5 2).trans d2
   have m0 := g5 0
   have m1 := g5 1
   have m2 := g5 2
   clear h5 g5
   go_wp2
   refine bodyPost_ret (v := .tuple #[.agg #[.int .i64 0, .string ⟨#[]⟩, .string ⟨#[]⟩], .bool false]) ?_ rfl ⟨by rw [HF.out]; rfl, ?_⟩
   ·simp [results, Tryz.results164, go_sem, k0, k1, k2]
   ·exact ((((z2N (hb3.alloc (by omega) _) nd).trans (hb5.mono (by simp; omega))).setCell (Nat.le_refl _) _).setCell (Nat.le_refl _) _).setCell (Nat.le_refl _) _
  ·have hfin : z0E s.data.toList = some (a, n, v) := by
    simp only [z0E, hA, hN, hV, z0w, hd, ho]; rfl
   have hoc := fun W => z4X (a : Int) (bs n) (bs v) W hnz hvz
   simp only [z0S, ho] at hoc
   have HA := Lib.hid hA
   have HN := Lib.hid hN
   have HV := Lib.hid hV
   have HD := Lib.hid hd
   have HF := Lib.hid hfin
   have HO := Lib.hid ho
   have HC := Lib.hid hoc
   clear hA hN hV hd hfin ho hoc
   go_enter Tryz.func164, Tryz.ntmps164
   go_wp2_with (fail)
   refine (z9M hs (by omega) HA.out (Fld.new (by simp))).mono ?_
   rintro e w1 ⟨rfl, hF1, hO1⟩
   go_wp2_with (fail)
   refine (z2E hs hp1 HN.out hF1).mono ?_
   rintro e w2 ⟨rfl, hF2, hO2⟩
   go_wp2_with (fail)
   refine (z2E hs hp2 HV.out hF2).mono ?_
   rintro e w3 ⟨rfl, hF3, hO3⟩
   have hB3 := ((((Box.new w _ _).alloc _).only hO1 (by omega)).only hO2 (by omega)).only hO3 (by omega)
   have hb3 : Below w.heap.size w w3 := (((Below.refl _ w).alloc (Nat.le_refl _) _).alloc (by simp) _).trans ((hO1.below (by omega) (by simp; omega)).trans ((hO2.trans hO3).below (by omega) (by have := Box.lt hF1; omega)))
   have d0 : w3.cell? ⟨w.heap.size, 0, none⟩ = some (.int .i64 0) := hB3.cell 0
   have d1 : w3.cell? ⟨w.heap.size, 1, none⟩ = some (.string ⟨#[]⟩) := hB3.cell 1
   have d2 : w3.cell? ⟨w.heap.size, 2, none⟩ = some (.string ⟨#[]⟩) := hB3.cell 2
   have e0 := hB3.free 0
   have e1 := hB3.free 1
   have e2 := hB3.free 2
   have hz : w.heap.size + 1 < w3.heap.size := Box.lt hF3
   have hz0 : w.heap.size < w3.heap.size := by omega
   have hz1 : w.heap.size ≠ w3.heap.size := by omega
   have HB := Lib.hid hB3
   clear hB3
   go_wp2_with (fail)
   refine (z7E hs hp3 HD.out (hF3.alloc _)).mono ?_
   rintro e w4 ⟨rfl, nd, rfl⟩
   go_wp2_with (fail)
   refine (HC.out _).mono ?_
   rintro e w5 ⟨rfl, hb5⟩
   have hs5 := hb5.size
   simp only [World.heap_drewN, World.size_alloc] at hs5
   have h5 : ∀ i, w5.cell? ⟨w.heap.size, i, none⟩ = w3.cell? ⟨w.heap.size, i, none⟩ := fun i => (hb5.cell (p := ⟨w.heap.size, i, none⟩) (by simp; omega)).trans (World.cell?_alloc_lt w3 _ _ hz0)
   have g5 : ∀ i, w5.frozen? ⟨w.heap.size, i, none⟩ = false := fun i => (hb5.frozen (p := ⟨w.heap.size, i, none⟩) (by simp; omega)).trans (((HB.out.alloc _).drewN nd).free i)
   have k0 := (h5 0).trans d0
   have k1 := (h5 1).trans d1
   have k2 := (h5 2).trans d2
   have m0 := g5 0
   have m1 := g5 1
   have m2 := g5 2
   have hU : Box w5 w3.heap.size 134 #[.int .i64 (a : Int), .string (bs n), .string (bs v)] := ((Box.new w3 _ _).drewN nd).below hb5 (by simp)
   have u0 : w5.cell? ⟨w3.heap.size, 0, none⟩ = some (.int .i64 (a : Int)) := hU.cell 0
   have u1 : w5.cell? ⟨w3.heap.size, 1, none⟩ = some (.string (bs n)) := hU.cell 1
   have u2 : w5.cell? ⟨w3.heap.size, 2, none⟩ = some (.string (bs v)) := hU.cell 2
   clear h5 g5 hU
   go_wp2
   refine bodyPost_ret (v := .tuple #[.agg #[.int .i64 (a : Int), .string (bs n), .string (bs v)], .bool true]) ?_ rfl ⟨by rw [HF.out]; rfl, ?_⟩
   ·simp [results, Tryz.results164, go_sem, k0, k1, k2]
   ·exact ((((z2N (hb3.alloc (by omega) _) nd).trans (hb5.mono (by simp; omega))).setCell (Nat.le_refl _) _).setCell (Nat.le_refl _) _).setCell (Nat.le_refl _) _
def z3W (t : Bs) : Option (Nat × Bs × Bs) :=
 let (a, p1, b1) := numS t 0 false
 let (n, p2, b2) := z5P t p1 b1
 let (v, p3, b3) := z5P t p2 b2
 if b3 = false ∧ z0g a n v = true ∧ z0t a n v = t then some (a, n, v) else none
end Go.Proofs.YtfjbinbpgdiafaaGreatDoor
namespace Go.Proofs.YtfjbinbpgdiafaaGreatDoor
set_option maxRecDepth 100000
set_option maxHeartbeats 800000
set_option linter.unusedVariables false
set_option linter.unusedSimpArgs false
set_option linter.unusedSectionVars false
open Go.RowKit Pl
theorem z68 {x : Nat} (hx : (x : Int) ≤ 4294967295) : (#[Value.int .u8 ((x : Int) / 16777216), .int .u8 ((x : Int) / 65536 % 256), .int .u8 ((x : Int) / 256 % 256), .int .u8 ((x : Int) % 256)]).toList = (z28 x).map bv := by
 simp [z28, bv]; omega
theorem za0 (x0 : Nat) (s : ByteArray) (w : World) (hs : (s.size : Int) ≤ 1000000000) (hx : (x0 : Int) ≤ 4294967295) :
 Calls Tryz.prog 202 #[.int .u32 (x0 : Int), .string s] w fun e w' => e = .returned (.int .u32 ((z20 x0 s.data.toList : Nat) : Int)) ∧ w = w' := by
 go_enter Tryz.func202, Tryz.ntmps202
 go_wp2
 go_loop [0, 5] (fun t i => ∃ k x : Nat, i = .int .i64 (k : Int) ∧ t = .int .u32 (x : Int) ∧ k ≤ s.size ∧ (x : Int) ≤ 4294967295 ∧ Hid (z20 x0 (s.data.toList.take k) = x)) (fun _ i => s.size - (intOf i).toNat)
 case atStart => exact ⟨0, x0, rfl, rfl, by omega, hx, Lib.hid (by simp [z20])⟩
 case round =>
  obtain ⟨k, x, rfl, rfl, hk, hx1, HK⟩ := hrel
  by_cases hin : k < s.size
  ·have hnb := z4M s
   have hb1 := z84 s k
   obtain ⟨b, hb, ht⟩ := z4T s k hin
   have HB := Lib.hid hb
   have HT := Lib.hid ht
   clear hb ht
   go_wp2
   go_loop [0, 19] (fun t i => ∃ j y : Nat, i = .int .i64 (j : Int) ∧ t = .int .u32 (y : Int) ∧ j ≤ 8 ∧ (y : Int) ≤ 4294967295 ∧ Hid (z4e j (x ^^^ nb s k) = y)) (fun _ i => 8 - (intOf i).toNat)
   case atStart => exact ⟨0, x ^^^ nb s k, rfl, congrArg (Value.int .u32) (xr32 hx1 (by omega)), by omega, z6Z hx1 (by omega), Lib.hid rfl⟩
   case round =>
    obtain ⟨j, y, rfl, rfl, hj, hy, HY⟩ := hrel
    by_cases h8 : j < 8
    ·by_cases hodd : (y : Int) % 2 = 1
     ·have hod : (bits .and .u32 (y : Int) 1 == 1) = true := by rw [zb6 hy]; simp; omega
      have HS := Lib.hid (show z4e (j + 1) (x ^^^ nb s k) = (y / 2) ^^^ 3558460437 by rw [z4e, HY.out, z9K, if_pos (by omega)])
      go_wp2
      go_round
      case rel => exact ⟨j + 1, (y / 2) ^^^ 3558460437, by go_num, congrArg (Value.int .u32) (z8y hy), by omega, z6Z (by omega) (by omega), HS⟩
      case measure => simp [intOf]; omega
     ·have hod : (bits .and .u32 (y : Int) 1 == 1) = false := by rw [zb6 hy]; simp; omega
      have HS := Lib.hid (show z4e (j + 1) (x ^^^ nb s k) = y / 2 by rw [z4e, HY.out, z9K, if_neg (by omega)])
      go_wp2
      go_round
      case rel => exact ⟨j + 1, y / 2, by go_num, by go_num, by omega, by omega, HS⟩
      case measure => simp [intOf]; omega
    ·obtain rfl : j = 8 := by omega
     go_wp2
     go_round
     case rel => exact ⟨k + 1, y, by go_num, rfl, by omega, hy, Lib.hid (by rw [HT.out, z4S, HK.out, HB.out, HY.out])⟩
     case measure => simp [intOf]; omega
  ·go_wp2
   go_ret
   exact ⟨by rw [← HK.out, List.take_of_length_le (by rw [z0w]; omega)]; rfl, rfl⟩
theorem zdZ (s : ByteArray) (w : World) (hs : (s.size : Int) ≤ 1000000000) :
 Calls Tryz.prog 191 #[.string s] w fun e w' => e = .returned (.int .u32 ((z2h s.data.toList : Nat) : Int)) ∧ w = w' := by
 have hc := za0 4294967295 s w hs (by omega)
 have HC := Lib.hid hc
 clear hc
 go_enter Tryz.func191, Tryz.ntmps191
 go_wp2_with (go_at_call 202; refine HC.out.mono ?_; rintro e w1 ⟨rfl, rfl⟩)
 go_ret
 exact ⟨rfl, rfl⟩
theorem z6B (x : Nat) (w : World) (hx : (x : Int) ≤ 4294967295) :
 Calls Tryz.prog 173 #[.int .u32 (x : Int)] w fun e w' => e = .returned (.string (bs (z28 x))) ∧ Below w.heap.size w w' := by
 have hcv := (Byt.lit w #[.int .u8 ((x : Int) / 16777216), .int .u8 ((x : Int) / 65536 % 256), .int .u8 ((x : Int) / 256 % 256), .int .u8 ((x : Int) % 256)] (z28 x) 4 rfl (z68 hx) (by simp [z28])).string
 go_enter Tryz.func173, Tryz.ntmps173
 go_wp2
 go_ret
 exact ⟨rfl, (Below.refl _ w).alloc (Nat.le_refl _) _⟩
theorem z8Q (x0 : Nat) (s : ByteArray) (w : World) (hs : (s.size : Int) ≤ 1000000000) (hx : (x0 : Int) ≤ 4294967295) :
 Calls Tryz.prog 226 #[.int .u32 (x0 : Int), .string s] w fun e w' => e = .returned (.int .u32 ((z20 x0 s.data.toList : Nat) : Int)) ∧ w = w' := by
 go_enter Tryz.func226, Tryz.ntmps226
 go_wp2
 go_loop [0, 5] (fun t i => ∃ k x : Nat, i = .int .i64 (k : Int) ∧ t = .int .u32 (x : Int) ∧ k ≤ s.size ∧ (x : Int) ≤ 4294967295 ∧ Hid (z20 x0 (s.data.toList.take k) = x)) (fun _ i => s.size - (intOf i).toNat)
 case atStart => exact ⟨0, x0, rfl, rfl, by omega, hx, Lib.hid (by simp [z20])⟩
 case round =>
  obtain ⟨k, x, rfl, rfl, hk, hx1, HK⟩ := hrel
  by_cases hin : k < s.size
  ·have hnb := z4M s
   have hb1 := z84 s k
   obtain ⟨b, hb, ht⟩ := z4T s k hin
   have HB := Lib.hid hb
   have HT := Lib.hid ht
   clear hb ht
   go_wp2
   go_loop [0, 6] (fun t i => ∃ j y : Nat, i = .int .i64 (j : Int) ∧ t = .int .u32 (y : Int) ∧ j ≤ 8 ∧ (y : Int) ≤ 4294967295 ∧ Hid (z4e j (x ^^^ nb s k) = y)) (fun _ i => 8 - (intOf i).toNat)
   case atStart => exact ⟨0, x ^^^ nb s k, rfl, congrArg (Value.int .u32) (xr32 hx1 (by omega)), by omega, z6Z hx1 (by omega), Lib.hid rfl⟩
   case round =>
    obtain ⟨j, y, rfl, rfl, hj, hy, HY⟩ := hrel
    by_cases h8 : j < 8
    ·by_cases hodd : (y : Int) % 2 = 1
     ·have HS := Lib.hid (show z4e (j + 1) (x ^^^ nb s k) = (y / 2) ^^^ 3558460437 by rw [z4e, HY.out, z9K, if_pos (by omega)])
      go_wp2
      go_round
      case rel => exact ⟨j + 1, (y / 2) ^^^ 3558460437, by go_num, congrArg (Value.int .u32) (z8y hy), by omega, z6Z (by omega) (by omega), HS⟩
      case measure => simp [intOf]; omega
     ·have HS := Lib.hid (show z4e (j + 1) (x ^^^ nb s k) = y / 2 by rw [z4e, HY.out, z9K, if_neg (by omega)])
      go_wp2
      go_round
      case rel => exact ⟨j + 1, y / 2, by go_num, by go_num, by omega, by omega, HS⟩
      case measure => simp [intOf]; omega
    ·obtain rfl : j = 8 := by omega
     go_wp2
     go_round
     case rel => exact ⟨k + 1, y, by go_num, rfl, by omega, hy, Lib.hid (by rw [HT.out, z4S, HK.out, HB.out, HY.out])⟩
     case measure => simp [intOf]; omega
  ·go_wp2
   go_ret
   exact ⟨by rw [← HK.out, List.take_of_length_le (by rw [z0w]; omega)]; rfl, rfl⟩
theorem zcf (s : ByteArray) (w : World) (hs : (s.size : Int) ≤ 1000000000) :
 Calls Tryz.prog 216 #[.string s] w fun e w' => e = .returned (.int .u32 ((z2h s.data.toList : Nat) : Int)) ∧ w = w' := by
 have hc := z8Q 4294967295 s w hs (by omega)
 have HC := Lib.hid hc
 clear hc
 go_enter Tryz.func216, Tryz.ntmps216
 go_wp2_with (go_at_call 226; refine HC.out.mono ?_; rintro e w1 ⟨rfl, rfl⟩)
 go_ret
 exact ⟨rfl, rfl⟩
theorem z69 (x : Nat) (w : World) (hx : (x : Int) ≤ 4294967295) :
 Calls Tryz.prog 215 #[.int .u32 (x : Int)] w fun e w' => e = .returned (.string (bs (z28 x))) ∧ Below w.heap.size w w' := by
 have hcv := (Byt.lit w #[.int .u8 ((x : Int) / 16777216), .int .u8 ((x : Int) / 65536 % 256), .int .u8 ((x : Int) / 256 % 256), .int .u8 ((x : Int) % 256)] (z28 x) 4 rfl (z68 hx) (by simp [z28])).string
 go_enter Tryz.func215, Tryz.ntmps215
 go_wp2
 go_ret
 exact ⟨rfl, (Below.refl _ w).alloc (Nat.le_refl _) _⟩
end Go.Proofs.YtfjbinbpgdiafaaGreatDoor
