/- What a region holds while calls make memory: a box of some cells. -/
import Derived.Test.YtkdajahiaedoiaaMem
namespace Go.Proofs.Ytkdajahiaedoiaa
open Go.RowKit
theorem heldStep2 {w0 W W' : World} {g : Nat} {t : TypeId} {a b : Value} (h : Below w0.heap.size w0 W ∧ Box W g t #[a, b] ∧ W.cell? ⟨g, 0, none⟩ = some a ∧ W.cell? ⟨g, 1, none⟩ = some b) (hb : Below W.heap.size W W') : Below w0.heap.size w0 W' ∧ Box W' g t #[a, b] ∧ W'.cell? ⟨g, 0, none⟩ = some a ∧ W'.cell? ⟨g, 1, none⟩ = some b := by
  have hx := h.2.1.below hb h.2.1.lt
  exact ⟨h.1.trans (hb.mono h.1.size), hx, hx.cell 0, hx.cell 1⟩
theorem heldAlloc2 {w0 W : World} {g : Nat} {t : TypeId} {a b : Value} {o : Obj} (h : Below w0.heap.size w0 W ∧ Box W g t #[a, b] ∧ W.cell? ⟨g, 0, none⟩ = some a ∧ W.cell? ⟨g, 1, none⟩ = some b) : Below w0.heap.size w0 (W.alloc o) ∧ Box (W.alloc o) g t #[a, b] ∧ (W.alloc o).cell? ⟨g, 0, none⟩ = some a ∧ (W.alloc o).cell? ⟨g, 1, none⟩ = some b := by
  have hx := h.2.1.alloc o
  exact ⟨h.1.alloc h.1.size o, hx, hx.cell 0, hx.cell 1⟩
theorem heldStep4 {w0 W W' : World} {g : Nat} {t : TypeId} {a b c d : Value} (h : Below w0.heap.size w0 W ∧ Box W g t #[a, b, c, d] ∧ W.cell? ⟨g, 0, none⟩ = some a ∧ W.cell? ⟨g, 1, none⟩ = some b ∧ W.cell? ⟨g, 2, none⟩ = some c ∧ W.cell? ⟨g, 3, none⟩ = some d) (hb : Below W.heap.size W W') : Below w0.heap.size w0 W' ∧ Box W' g t #[a, b, c, d] ∧ W'.cell? ⟨g, 0, none⟩ = some a ∧ W'.cell? ⟨g, 1, none⟩ = some b ∧ W'.cell? ⟨g, 2, none⟩ = some c ∧ W'.cell? ⟨g, 3, none⟩ = some d := by
  have hx := h.2.1.below hb h.2.1.lt
  exact ⟨h.1.trans (hb.mono h.1.size), hx, hx.cell 0, hx.cell 1, hx.cell 2, hx.cell 3⟩
theorem heldAlloc4 {w0 W : World} {g : Nat} {t : TypeId} {a b c d : Value} {o : Obj} (h : Below w0.heap.size w0 W ∧ Box W g t #[a, b, c, d] ∧ W.cell? ⟨g, 0, none⟩ = some a ∧ W.cell? ⟨g, 1, none⟩ = some b ∧ W.cell? ⟨g, 2, none⟩ = some c ∧ W.cell? ⟨g, 3, none⟩ = some d) : Below w0.heap.size w0 (W.alloc o) ∧ Box (W.alloc o) g t #[a, b, c, d] ∧ (W.alloc o).cell? ⟨g, 0, none⟩ = some a ∧ (W.alloc o).cell? ⟨g, 1, none⟩ = some b ∧ (W.alloc o).cell? ⟨g, 2, none⟩ = some c ∧ (W.alloc o).cell? ⟨g, 3, none⟩ = some d := by
  have hx := h.2.1.alloc o
  exact ⟨h.1.alloc h.1.size o, hx, hx.cell 0, hx.cell 1, hx.cell 2, hx.cell 3⟩
theorem heldStep5 {w0 W W' : World} {g : Nat} {t : TypeId} {a b c d e : Value} (h : Below w0.heap.size w0 W ∧ Box W g t #[a, b, c, d, e] ∧ W.cell? ⟨g, 0, none⟩ = some a ∧ W.cell? ⟨g, 1, none⟩ = some b ∧ W.cell? ⟨g, 2, none⟩ = some c ∧ W.cell? ⟨g, 3, none⟩ = some d ∧ W.cell? ⟨g, 4, none⟩ = some e) (hb : Below W.heap.size W W') : Below w0.heap.size w0 W' ∧ Box W' g t #[a, b, c, d, e] ∧ W'.cell? ⟨g, 0, none⟩ = some a ∧ W'.cell? ⟨g, 1, none⟩ = some b ∧ W'.cell? ⟨g, 2, none⟩ = some c ∧ W'.cell? ⟨g, 3, none⟩ = some d ∧ W'.cell? ⟨g, 4, none⟩ = some e := by
  have hx := h.2.1.below hb h.2.1.lt
  exact ⟨h.1.trans (hb.mono h.1.size), hx, hx.cell 0, hx.cell 1, hx.cell 2, hx.cell 3, hx.cell 4⟩
theorem heldAlloc5 {w0 W : World} {g : Nat} {t : TypeId} {a b c d e : Value} {o : Obj} (h : Below w0.heap.size w0 W ∧ Box W g t #[a, b, c, d, e] ∧ W.cell? ⟨g, 0, none⟩ = some a ∧ W.cell? ⟨g, 1, none⟩ = some b ∧ W.cell? ⟨g, 2, none⟩ = some c ∧ W.cell? ⟨g, 3, none⟩ = some d ∧ W.cell? ⟨g, 4, none⟩ = some e) : Below w0.heap.size w0 (W.alloc o) ∧ Box (W.alloc o) g t #[a, b, c, d, e] ∧ (W.alloc o).cell? ⟨g, 0, none⟩ = some a ∧ (W.alloc o).cell? ⟨g, 1, none⟩ = some b ∧ (W.alloc o).cell? ⟨g, 2, none⟩ = some c ∧ (W.alloc o).cell? ⟨g, 3, none⟩ = some d ∧ (W.alloc o).cell? ⟨g, 4, none⟩ = some e := by
  have hx := h.2.1.alloc o
  exact ⟨h.1.alloc h.1.size o, hx, hx.cell 0, hx.cell 1, hx.cell 2, hx.cell 3, hx.cell 4⟩
theorem heldStep6 {w0 W W' : World} {g : Nat} {t : TypeId} {a b c d e f : Value} (h : Below w0.heap.size w0 W ∧ Box W g t #[a, b, c, d, e, f] ∧ W.cell? ⟨g, 0, none⟩ = some a ∧ W.cell? ⟨g, 1, none⟩ = some b ∧ W.cell? ⟨g, 2, none⟩ = some c ∧ W.cell? ⟨g, 3, none⟩ = some d ∧ W.cell? ⟨g, 4, none⟩ = some e ∧ W.cell? ⟨g, 5, none⟩ = some f) (hb : Below W.heap.size W W') : Below w0.heap.size w0 W' ∧ Box W' g t #[a, b, c, d, e, f] ∧ W'.cell? ⟨g, 0, none⟩ = some a ∧ W'.cell? ⟨g, 1, none⟩ = some b ∧ W'.cell? ⟨g, 2, none⟩ = some c ∧ W'.cell? ⟨g, 3, none⟩ = some d ∧ W'.cell? ⟨g, 4, none⟩ = some e ∧ W'.cell? ⟨g, 5, none⟩ = some f := by
  have hx := h.2.1.below hb h.2.1.lt
  exact ⟨h.1.trans (hb.mono h.1.size), hx, hx.cell 0, hx.cell 1, hx.cell 2, hx.cell 3, hx.cell 4, hx.cell 5⟩
theorem heldAlloc6 {w0 W : World} {g : Nat} {t : TypeId} {a b c d e f : Value} {o : Obj} (h : Below w0.heap.size w0 W ∧ Box W g t #[a, b, c, d, e, f] ∧ W.cell? ⟨g, 0, none⟩ = some a ∧ W.cell? ⟨g, 1, none⟩ = some b ∧ W.cell? ⟨g, 2, none⟩ = some c ∧ W.cell? ⟨g, 3, none⟩ = some d ∧ W.cell? ⟨g, 4, none⟩ = some e ∧ W.cell? ⟨g, 5, none⟩ = some f) : Below w0.heap.size w0 (W.alloc o) ∧ Box (W.alloc o) g t #[a, b, c, d, e, f] ∧ (W.alloc o).cell? ⟨g, 0, none⟩ = some a ∧ (W.alloc o).cell? ⟨g, 1, none⟩ = some b ∧ (W.alloc o).cell? ⟨g, 2, none⟩ = some c ∧ (W.alloc o).cell? ⟨g, 3, none⟩ = some d ∧ (W.alloc o).cell? ⟨g, 4, none⟩ = some e ∧ (W.alloc o).cell? ⟨g, 5, none⟩ = some f := by
  have hx := h.2.1.alloc o
  exact ⟨h.1.alloc h.1.size o, hx, hx.cell 0, hx.cell 1, hx.cell 2, hx.cell 3, hx.cell 4, hx.cell 5⟩
end Go.Proofs.Ytkdajahiaedoiaa
