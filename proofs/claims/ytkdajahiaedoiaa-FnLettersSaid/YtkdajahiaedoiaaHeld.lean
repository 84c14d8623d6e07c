/- What a region holds while calls make memory: a box of some cells. -/
import Derived.Test.YtkdajahiaedoiaaMem
namespace Go.Proofs.Ytkdajahiaedoiaa
open Go.RowKit
theorem heldStep2 {w0 W W' : World} {g : Nat} {t : TypeId} {a b : Value} (h : Below w0.heap.size w0 W ∧ Box W g t #[a, b] ∧ W.cell? ⟨g, 0, none⟩ = some a ∧ W.cell? ⟨g, 1, none⟩ = some b) (hb : Below W.heap.size W W') : Below w0.heap.size w0 W' ∧ Box W' g t #[a, b] ∧ W'.cell? ⟨g, 0, none⟩ = some a ∧ W'.cell? ⟨g, 1, none⟩ = some b := by
  have hx := h.2.1.below hb h.2.1.lt
  exact ⟨h.1.trans (hb.mono h.1.size), hx, hx.cell 0, hx.cell 1⟩
theorem heldAlloc2 {w0 W : World} {g : Nat} {t : TypeId} {a b : Value} {o : Obj} (h : Below w0.heap.size w0 W ∧ Box W g t #[a, b] ∧ W.cell? ⟨g, 0, none⟩ = some a ∧ W.cell? ⟨g, 1, none⟩ = some b) : Below w0.heap.size w0 (W.alloc o) ∧ Box (W.alloc o) g t #[a, b] ∧ (W.alloc o).cell? ⟨g, 0, none⟩ = some a ∧ (W.alloc o).cell? ⟨g, 1, none⟩ = some b := by
  have hx := h.2.1.alloc o
  exact ⟨h.1.alloc h.1.size o, hx, hx.cell 0, hx.cell 1⟩
theorem heldStep4 {w0 W W' : World} {g : Nat} {t : TypeId} {a b c d : Value} (h : Below w0.heap.size w0 W ∧ Box W g t #[a, b, c, d] ∧ W.cell? ⟨g, 0, none⟩ = some a ∧ W.cell? ⟨g, 1, none⟩ = some b ∧ W.cell? ⟨g, 2, none⟩ = some c ∧ W.cell? ⟨g, 3, none⟩ = some d) (hb : Below W.heap.size W W') : Below w0.heap.size w0 W' ∧ Box W' g t #[a, b, c, d] ∧ W'.cell? ⟨g, 0, none⟩ = some a ∧ W'.cell? ⟨g, 1, none⟩ = some b ∧ W'.cell? ⟨g, 2, none⟩ = some c ∧ W'.cell? ⟨g, 3, none⟩ = some d := by
  have hx := h.2.1.below hb h.2.1.lt
  exact ⟨h.1.trans (hb.mono h.1.size), hx, hx.cell 0, hx.cell 1, hx.cell 2, hx.cell 3⟩
theorem heldAlloc4 {w0 W : World} {g : Nat} {t : TypeId} {a b c d : Value} {o : Obj} (h : Below w0.heap.size w0 W ∧ Box W g t #[a, b, c, d] ∧ W.cell? ⟨g, 0, none⟩ = some a ∧ W.cell? ⟨g, 1, none⟩ = some b ∧ W.cell? ⟨g, 2, none⟩ = some c ∧ W.cell? ⟨g, 3, none⟩ = some d) : Below w0.heap.size w0 (W.alloc o) ∧ Box (W.alloc o) g t #[a, b, c, d] ∧ (W.alloc o).cell? ⟨g, 0, none⟩ = some a ∧ (W.alloc o).cell? ⟨g, 1, none⟩ = some b ∧ (W.alloc o).cell? ⟨g, 2, none⟩ = some c ∧ (W.alloc o).cell? ⟨g, 3, none⟩ = some d := by
  have hx := h.2.1.alloc o
  exact ⟨h.1.alloc h.1.size o, hx, hx.cell 0, hx.cell 1, hx.cell 2, hx.cell 3⟩
theorem heldStep5 {w0 W W' : World} {g : Nat} {t : TypeId} {a b c d e : Value} (h : Below w0.heap.size w0 W ∧ Box W g t #[a, b, c, d, e] ∧ W.cell? ⟨g, 0, none⟩ = some a ∧ W.cell? ⟨g, 1, none⟩ = some b ∧ W.cell? ⟨g, 2, none⟩ = some c ∧ W.cell? ⟨g, 3, none⟩ = some d ∧ W.cell? ⟨g, 4, none⟩ = some e) (hb : Below W.heap.size W W') : Below w0.heap.size w0 W' ∧ Box W' g t #[a, b, c, d, e] ∧ W'.cell? ⟨g, 0, none⟩ = some a ∧ W'.cell? ⟨g, 1, none⟩ = some b ∧ W'.cell? ⟨g, 2, none⟩ = some c ∧ W'.cell? ⟨g, 3, none⟩ = some d ∧ W'.cell? ⟨g, 4, none⟩ = some e := by
  have hx := h.2.1.below hb h.2.1.lt
  exact ⟨h.1.trans (hb.mono h.1.size), hx, hx.cell 0, hx.cell 1, hx.cell 2, hx.cell 3, hx.cell 4⟩
theorem heldAlloc5 {w0 W : World} {g : Nat} {t : TypeId} {a b c d e : Value} {o : Obj} (h : Below w0.heap.size w0 W ∧ Box W g t #[a, b, c, d, e] ∧ W.cell? ⟨g, 0, none⟩ = some a ∧ W.cell? ⟨g, 1, none⟩ = some b ∧ W.cell? ⟨g, 2, none⟩ = some c ∧ W.cell? ⟨g, 3, none⟩ = some d ∧ W.cell? ⟨g, 4, none⟩ = some e) : Below w0.heap.size w0 (W.alloc o) ∧ Box (W.alloc o) g t #[a, b, c, d, e] ∧ (W.alloc o).cell? ⟨g, 0, none⟩ = some a ∧ (W.alloc o).cell? ⟨g, 1, none⟩ = some b ∧ (W.alloc o).cell? ⟨g, 2, none⟩ = some c ∧ (W.alloc o).cell? ⟨g, 3, none⟩ = some d ∧ (W.alloc o).cell? ⟨g, 4, none⟩ = some e := by
  have hx := h.2.1.alloc o
  exact ⟨h.1.alloc h.1.size o, hx, hx.cell 0, hx.cell 1, hx.cell 2, hx.cell 3, hx.cell 4⟩
theorem heldStep6 {w0 W W' : World} {g : Nat} {t : TypeId} {a b c d e f : Value} (h : Below w0.heap.size w0 W ∧ Box W g t #[a, b, c, d, e, f] ∧ W.cell? ⟨g, 0, none⟩ = some a ∧ W.cell? ⟨g, 1, none⟩ = some b ∧ W.cell? ⟨g, 2, none⟩ = some c ∧ W.cell? ⟨g, 3, none⟩ = some d ∧ W.cell? ⟨g, 4, none⟩ = some e ∧ W.cell? ⟨g, 5, none⟩ = some f) (hb : Below W.heap.size W W') : Below w0.heap.size w0 W' ∧ Box W' g t #[a, b, c, d, e, f] ∧ W'.cell? ⟨g, 0, none⟩ = some a ∧ W'.cell? ⟨g, 1, none⟩ = some b ∧ W'.cell? ⟨g, 2, none⟩ = some c ∧ W'.cell? ⟨g, 3, none⟩ = some d ∧ W'.cell? ⟨g, 4, none⟩ = some e ∧ W'.cell? ⟨g, 5, none⟩ = some f := by
  have hx := h.2.1.below hb h.2.1.lt
  exact ⟨h.1.trans (hb.mono h.1.size), hx, hx.cell 0, hx.cell 1, hx.cell 2, hx.cell 3, hx.cell 4, hx.cell 5⟩
theorem heldAlloc6 {w0 W : World} {g : Nat} {t : TypeId} {a b c d e f : Value} {o : Obj} (h : Below w0.heap.size w0 W ∧ Box W g t #[a, b, c, d, e, f] ∧ W.cell? ⟨g, 0, none⟩ = some a ∧ W.cell? ⟨g, 1, none⟩ = some b ∧ W.cell? ⟨g, 2, none⟩ = some c ∧ W.cell? ⟨g, 3, none⟩ = some d ∧ W.cell? ⟨g, 4, none⟩ = some e ∧ W.cell? ⟨g, 5, none⟩ = some f) : Below w0.heap.size w0 (W.alloc o) ∧ Box (W.alloc o) g t #[a, b, c, d, e, f] ∧ (W.alloc o).cell? ⟨g, 0, none⟩ = some a ∧ (W.alloc o).cell? ⟨g, 1, none⟩ = some b ∧ (W.alloc o).cell? ⟨g, 2, none⟩ = some c ∧ (W.alloc o).cell? ⟨g, 3, none⟩ = some d ∧ (W.alloc o).cell? ⟨g, 4, none⟩ = some e ∧ (W.alloc o).cell? ⟨g, 5, none⟩ = some f := by
  have hx := h.2.1.alloc o
  exact ⟨h.1.alloc h.1.size o, hx, hx.cell 0, hx.cell 1, hx.cell 2, hx.cell 3, hx.cell 4, hx.cell 5⟩
theorem cellsStep1 {w0 W W' : World} {g0 o0 : Nat} {v0 : Value} (h0 : g0 < w0.heap.size) (h : Below w0.heap.size w0 W ∧ W.cell? ⟨g0, o0, none⟩ = some v0) (hb : Below W.heap.size W W') : Below w0.heap.size w0 W' ∧ W'.cell? ⟨g0, o0, none⟩ = some v0 := by
  obtain ⟨hB, c0⟩ := h
  have hs := hB.size
  exact ⟨hB.trans (hb.mono hB.size), (hb.cell (p := ⟨g0, o0, none⟩) (by simp; omega)).trans c0⟩
theorem cellsStep2 {w0 W W' : World} {g0 o0 g1 o1 : Nat} {v0 v1 : Value} (h0 : g0 < w0.heap.size) (h1 : g1 < w0.heap.size) (h : Below w0.heap.size w0 W ∧ W.cell? ⟨g0, o0, none⟩ = some v0 ∧ W.cell? ⟨g1, o1, none⟩ = some v1) (hb : Below W.heap.size W W') : Below w0.heap.size w0 W' ∧ W'.cell? ⟨g0, o0, none⟩ = some v0 ∧ W'.cell? ⟨g1, o1, none⟩ = some v1 := by
  obtain ⟨hB, c0, c1⟩ := h
  have hs := hB.size
  exact ⟨hB.trans (hb.mono hB.size), (hb.cell (p := ⟨g0, o0, none⟩) (by simp; omega)).trans c0, (hb.cell (p := ⟨g1, o1, none⟩) (by simp; omega)).trans c1⟩
theorem cellsStep3 {w0 W W' : World} {g0 o0 g1 o1 g2 o2 : Nat} {v0 v1 v2 : Value} (h0 : g0 < w0.heap.size) (h1 : g1 < w0.heap.size) (h2 : g2 < w0.heap.size) (h : Below w0.heap.size w0 W ∧ W.cell? ⟨g0, o0, none⟩ = some v0 ∧ W.cell? ⟨g1, o1, none⟩ = some v1 ∧ W.cell? ⟨g2, o2, none⟩ = some v2) (hb : Below W.heap.size W W') : Below w0.heap.size w0 W' ∧ W'.cell? ⟨g0, o0, none⟩ = some v0 ∧ W'.cell? ⟨g1, o1, none⟩ = some v1 ∧ W'.cell? ⟨g2, o2, none⟩ = some v2 := by
  obtain ⟨hB, c0, c1, c2⟩ := h
  have hs := hB.size
  exact ⟨hB.trans (hb.mono hB.size), (hb.cell (p := ⟨g0, o0, none⟩) (by simp; omega)).trans c0, (hb.cell (p := ⟨g1, o1, none⟩) (by simp; omega)).trans c1, (hb.cell (p := ⟨g2, o2, none⟩) (by simp; omega)).trans c2⟩
theorem cellsStep4 {w0 W W' : World} {g0 o0 g1 o1 g2 o2 g3 o3 : Nat} {v0 v1 v2 v3 : Value} (h0 : g0 < w0.heap.size) (h1 : g1 < w0.heap.size) (h2 : g2 < w0.heap.size) (h3 : g3 < w0.heap.size) (h : Below w0.heap.size w0 W ∧ W.cell? ⟨g0, o0, none⟩ = some v0 ∧ W.cell? ⟨g1, o1, none⟩ = some v1 ∧ W.cell? ⟨g2, o2, none⟩ = some v2 ∧ W.cell? ⟨g3, o3, none⟩ = some v3) (hb : Below W.heap.size W W') : Below w0.heap.size w0 W' ∧ W'.cell? ⟨g0, o0, none⟩ = some v0 ∧ W'.cell? ⟨g1, o1, none⟩ = some v1 ∧ W'.cell? ⟨g2, o2, none⟩ = some v2 ∧ W'.cell? ⟨g3, o3, none⟩ = some v3 := by
  obtain ⟨hB, c0, c1, c2, c3⟩ := h
  have hs := hB.size
  exact ⟨hB.trans (hb.mono hB.size), (hb.cell (p := ⟨g0, o0, none⟩) (by simp; omega)).trans c0, (hb.cell (p := ⟨g1, o1, none⟩) (by simp; omega)).trans c1, (hb.cell (p := ⟨g2, o2, none⟩) (by simp; omega)).trans c2, (hb.cell (p := ⟨g3, o3, none⟩) (by simp; omega)).trans c3⟩
theorem cellsStep6 {w0 W W' : World} {g0 o0 g1 o1 g2 o2 g3 o3 g4 o4 g5 o5 : Nat} {v0 v1 v2 v3 v4 v5 : Value} (h0 : g0 < w0.heap.size) (h1 : g1 < w0.heap.size) (h2 : g2 < w0.heap.size) (h3 : g3 < w0.heap.size) (h4 : g4 < w0.heap.size) (h5 : g5 < w0.heap.size) (h : Below w0.heap.size w0 W ∧ W.cell? ⟨g0, o0, none⟩ = some v0 ∧ W.cell? ⟨g1, o1, none⟩ = some v1 ∧ W.cell? ⟨g2, o2, none⟩ = some v2 ∧ W.cell? ⟨g3, o3, none⟩ = some v3 ∧ W.cell? ⟨g4, o4, none⟩ = some v4 ∧ W.cell? ⟨g5, o5, none⟩ = some v5) (hb : Below W.heap.size W W') : Below w0.heap.size w0 W' ∧ W'.cell? ⟨g0, o0, none⟩ = some v0 ∧ W'.cell? ⟨g1, o1, none⟩ = some v1 ∧ W'.cell? ⟨g2, o2, none⟩ = some v2 ∧ W'.cell? ⟨g3, o3, none⟩ = some v3 ∧ W'.cell? ⟨g4, o4, none⟩ = some v4 ∧ W'.cell? ⟨g5, o5, none⟩ = some v5 := by
  obtain ⟨hB, c0, c1, c2, c3, c4, c5⟩ := h
  have hs := hB.size
  exact ⟨hB.trans (hb.mono hB.size), (hb.cell (p := ⟨g0, o0, none⟩) (by simp; omega)).trans c0, (hb.cell (p := ⟨g1, o1, none⟩) (by simp; omega)).trans c1, (hb.cell (p := ⟨g2, o2, none⟩) (by simp; omega)).trans c2, (hb.cell (p := ⟨g3, o3, none⟩) (by simp; omega)).trans c3, (hb.cell (p := ⟨g4, o4, none⟩) (by simp; omega)).trans c4, (hb.cell (p := ⟨g5, o5, none⟩) (by simp; omega)).trans c5⟩
end Go.Proofs.Ytkdajahiaedoiaa
