/- Appending elements of any plain type onto a row of the call's own. -/
import Derived.Test.YtkdajahiaedoiaaMem
namespace Go.Proofs.Ytkdajahiaedoiaa
open Go.RowKit Pl
set_option linter.unusedVariables false

/-- 'append(v, x, ..)': elements of type e, whose cells lie in a new block, onto a row of the call's own. -/
theorem wp_app_row {ops : Array Oper} {rest : List Oper} {o : Oper} {a : Act} {Q : Exit → Act → World → Prop} (T e : TypeId) (z : Value) (size bytes : Nat)
    (hT : Try.prog.underlying T = some (.slice e)) (hinfo : (Try.prog.info? e).map (fun i => (i.zero, i.size, i.bytes)) = some (some z, size, bytes)) (hzs : z.cells.size = size) (hsz : 0 < size)
    (hgd : o.guard = none) (s x : Operand)
    (ho : o.op = .call { callee := .builtin .append, args := #[s, x], argTypes := #[T, T] })
    (W : World) (base : Nat) (v : Value) (n : Nat) (xs news : List Value) (hown : W.ownsRow base e size v n xs) (C : Array Value) (hC : C.toList = news) (hs : a.eval s = v)
    (m c : Nat) (hm : news.length = m * size) (h1 : ∀ u ∈ news, u.oneCell' = true) (hx : a.eval x = .slice (some ⟨W.heap.size, 0, none⟩) m c) (hlen : n + m ≤ 1000000000) (hby : bytes ≤ 100000) (hbase : base ≤ W.heap.size)
    (h : ∀ v' w', w'.ownsRow base e size v' (n + m) (xs ++ news) → Below base W w' → wpList Try.prog ops Q rest (a.put o.dst v') w') :
    wpList Try.prog ops Q (o :: rest) a (W.alloc (.cells C e)) := by
  obtain ⟨i0, hi0, hz0, hz1, hz2⟩ := info_parts hinfo
  refine wpList_append_own _ hgd s x _ ho base e i0 _ size bytes hT hi0 hz0 hz1 hz2 hzs hsz v n xs hs (hown.alloc _) ⟨W.heap.size, 0, none⟩ m c news hx hm ?_ h1 ?_ ?_ ?_ ?_
  · intro j u hu
    have hadd : (⟨W.heap.size, 0, none⟩ : Addr).add j = ⟨W.heap.size, j, none⟩ := by unfold Addr.add; split <;> simp_all
    rw [hadd, World.cell?_alloc_mark, ← Array.getElem?_toList, hC]
    exact hu
  · unfold maxLen; omega
  · calc (n + m) * bytes ≤ 1000000000 * 100000 := Nat.mul_le_mul hlen hby
      _ ≤ 140737488355328 := by decide
  · simp; omega
  · intro v' w' h2 h3 _
    refine h v' w' h2 (Below.grown ((Below.refl _ _).alloc hbase _) h3 (by simp; omega) ?_)
    intro k hk
    exact (World.ownsRow.lt hown k hk).1
theorem row_nil (w : World) (base : Nat) (e : TypeId) (size : Nat) : w.ownsRow base e size (.slice none 0 0) 0 [] := ⟨by simp, .inl ⟨rfl, rfl⟩⟩
theorem row_empty (w : World) (base : Nat) (e : TypeId) (size : Nat) (hb : base ≤ w.heap.size) : (w.alloc (.cells #[] e)).ownsRow base e size (.slice (some ⟨w.heap.size, 0, none⟩) 0 0) 0 [] :=
  ⟨by simp, .inr ⟨w.heap.size, 0, #[], rfl, hb, heap_alloc_new w _, Nat.le_refl _, Nat.zero_le _, by simp, by simp⟩⟩
theorem row_below {w w' : World} {base : Nat} {e : TypeId} {size : Nat} {v : Value} {n : Nat} {xs : List Value} (h : w.ownsRow base e size v n xs) (hb : Below w.heap.size w w') : w'.ownsRow base e size v n xs :=
  h.kept (row := none) ⟨hb.os, hb.tape, hb.output, hb.size, fun i hi _ => hb.block i hi⟩ (by cases h : v.ownBlock <;> simp)
theorem row_only {w w' : World} {g base : Nat} {e : TypeId} {size : Nat} {v : Value} {n : Nat} {xs : List Value} (h : w.ownsRow base e size v n xs) (hb : Only g w w') (hg : g < base) : w'.ownsRow base e size v n xs :=
  h.kept hb (by
    rcases hv : v.ownBlock with _ | k
    · exact .inl rfl
    · right
      have := (World.ownsRow.lt h k hv).1
      intro hc; injection hc with hc; omega)
end Go.Proofs.Ytkdajahiaedoiaa
