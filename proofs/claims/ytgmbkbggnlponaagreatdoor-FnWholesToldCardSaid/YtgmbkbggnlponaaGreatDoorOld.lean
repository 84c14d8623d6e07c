/- Changes: the tests, the texts, the readers of both sides, and the law that they agree. The program's reader of fields: each of its methods, the reader's block known whole. The reference's reader of fields: each of its functions, the reader's block known whole. Changes: what both readers read. Checksums: what both sides' functions compute. -/
import Derived.Test.YtgmbkbggnlponaaGreatDoorWax
import Derived.Deep.RegionHeld3
import Derived.Test.YtgmbkbggnlponaaGreatDoorPlainM
namespace Go.Proofs.YtgmbkbggnlponaaGreatDoor
set_option linter.unusedVariables false
set_option linter.unusedSimpArgs false
set_option linter.unusedSectionVars false
open Go.RowKit Pl
def zgf (id : Int) (n v : Bs) : Bool := (decide (1 ≤ id) && decide (id ≤ 99)) && z1d n && (v.isEmpty || z1H v)
end Go.Proofs.YtgmbkbggnlponaaGreatDoor
namespace Go.Proofs.YtgmbkbggnlponaaGreatDoor
set_option linter.unusedVariables false
set_option linter.unusedSimpArgs false
set_option linter.unusedSectionVars false
open Go.RowKit Pl
def Fld (w : World) (g : Nat) (s : ByteArray) (p : Nat) (bad : Bool) : Prop := Box w g 67 #[.string s, .int .i64 (p : Int), .bool bad]
theorem Fld.c0 {w : World} {g : Nat} {s : ByteArray} {p : Nat} {bad : Bool} (h : Fld w g s p bad) : w.cell? ⟨g, 0, none⟩ = some (.string s) := Box.cell h 0
theorem Fld.c1 {w : World} {g : Nat} {s : ByteArray} {p : Nat} {bad : Bool} (h : Fld w g s p bad) : w.cell? ⟨g, 1, none⟩ = some (.int .i64 (p : Int)) := Box.cell h 1
theorem Fld.c2 {w : World} {g : Nat} {s : ByteArray} {p : Nat} {bad : Bool} (h : Fld w g s p bad) : w.cell? ⟨g, 2, none⟩ = some (.bool bad) := Box.cell h 2
section
variable {g : Nat} {s : ByteArray} {p q n : Nat} {bad b : Bool} {l : Bs} {w : World} (hs : (s.size : Int) ≤ 1000000000) (hp : p ≤ s.size)
include hs hp
end
theorem Fld.new {w : World} {g : Nat} {s : ByteArray} (h : g = w.heap.size) : Fld (w.alloc (.cells #[.string s, .int .i64 0, .bool false] 67)) g s 0 false := by subst h; exact Box.new w _ _
end Go.Proofs.YtgmbkbggnlponaaGreatDoor
namespace Go.Proofs.YtgmbkbggnlponaaGreatDoor
set_option linter.unusedVariables false
set_option linter.unusedSimpArgs false
set_option linter.unusedSectionVars false
open Go.RowKit Pl
def Cur (w : World) (g : Nat) (s : ByteArray) (p : Nat) (bad : Bool) : Prop := Box w g 81 #[.string s, .int .i64 (p : Int), .bool bad]
theorem Cur.c0 {w : World} {g : Nat} {s : ByteArray} {p : Nat} {bad : Bool} (h : Cur w g s p bad) : w.cell? ⟨g, 0, none⟩ = some (.string s) := Box.cell h 0
theorem Cur.c1 {w : World} {g : Nat} {s : ByteArray} {p : Nat} {bad : Bool} (h : Cur w g s p bad) : w.cell? ⟨g, 1, none⟩ = some (.int .i64 (p : Int)) := Box.cell h 1
theorem Cur.c2 {w : World} {g : Nat} {s : ByteArray} {p : Nat} {bad : Bool} (h : Cur w g s p bad) : w.cell? ⟨g, 2, none⟩ = some (.bool bad) := Box.cell h 2
section
variable {g : Nat} {s : ByteArray} {p q n : Nat} {z : Int} {bad b : Bool} {l : Bs} {w : World} (hs : (s.size : Int) ≤ 1000000000) (hp : p ≤ s.size)
include hs hp
end
theorem Cur.new {w : World} {g : Nat} {s : ByteArray} {b : Bool} (h : g = w.heap.size) : Cur (w.alloc (.cells #[.string s, .int .i64 0, .bool b] 81)) g s 0 b := by subst h; exact Box.new w _ _
end Go.Proofs.YtgmbkbggnlponaaGreatDoor
namespace Go.Proofs.YtgmbkbggnlponaaGreatDoor
set_option linter.unusedVariables false
set_option linter.unusedSimpArgs false
set_option linter.unusedSectionVars false
open Go.RowKit Pl
end Go.Proofs.YtgmbkbggnlponaaGreatDoor
namespace Go.Proofs.YtgmbkbggnlponaaGreatDoor
set_option linter.unusedVariables false
set_option linter.unusedSimpArgs false
set_option linter.unusedSectionVars false
open Go.RowKit Pl
end Go.Proofs.YtgmbkbggnlponaaGreatDoor
