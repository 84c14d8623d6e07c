/- Functions by content: the program's tree: places and sides. -/
import Derived.Test.YtigfpjnjjndenaaGreatDoorTa
namespace Go.Proofs.YtigfpjnjjndenaaGreatDoor
open Go.RowKit Pl
set_option linter.unusedVariables false
set_option linter.unusedSimpArgs false
attribute [local irreducible] CondB CallP LoopW AnsP LeP

/-! ### types -/
def ex3 : List (Nat × Ty) := [
  (191, ⟨3, 56, [.val nilV, .val nilV, .int .i64 0], .struct [(0, 24), (1, 58), (2, 3)], false⟩),
  (291, ⟨3, 40, [.str [], .str [], .int .i64 0], .struct [(0, 140), (2, 3)], false⟩),
  (265, tySl 291),
  (3, tyInt)]
set_option maxRecDepth 100000 in
set_option maxHeartbeats 4000000 in
theorem ex3_all : ∀ p ∈ ex3, TyOk Tryz.prog p.1 p.2 := by
  simp only [ex3, List.forall_mem_cons]
  repeat' (refine And.intro ?_ ?_)
  all_goals first
    | exact (fun _ h => by cases h)
    | exact ⟨⟨_, _, rfl, rfl, rfl, rfl, rfl⟩, ⟨_, rfl, rfl⟩, rfl, rfl, fun h => (Bool.false_ne_true h).elim⟩
def ttL3 : List (Nat × Ty) := ttL ++ ex3
def tt3 : TT := lk ttL3
theorem tt3_ok : TtOk Tryz.prog tt3 := fun t y h => by
  have hm : (t, y) ∈ ttL3 := lk_mem h
  rcases List.mem_append.1 hm with h | h
  · exact tt_all (t, y) h
  · exact ex3_all (t, y) h

theorem name_le {l : List Lf} (h : leavesOk l = true) (k : Nat) : ((lfAt l k).1.length : Int) ≤ 100000000 := by
  obtain ⟨_, h2, _⟩ := ok_sorted h
  unfold lfAt
  rcases Nat.lt_or_ge k l.length with hk | hk
  · simp only [List.getD, List.getElem?_eq_getElem hk, Option.getD_some]
    have := nameOk_len (h2 _ (List.getElem_mem hk)).1
    omega
  · simp [List.getD, List.getElem?_eq_none hk]
theorem atP_next {l : List Lf} {k d p : Nat} (h : k < l.length) : atP (l.take (k + 1)) d p = atP (l.take k) d p ++ (if ixB (lfAt l k).1 / 2 ^ d = p then [lfAt l k] else []) := by
  unfold atP
  rw [filter_next h]
  by_cases he : ixB (lfAt l k).1 / 2 ^ d = p <;> simp [he]
theorem atP_ok {l : List Lf} {d p : Nat} (h : leavesOk l = true) : leavesOk (atP l d p) = true := by
  obtain ⟨h1, h2, h3⟩ := ok_sorted h
  exact sorted_ok (Nat.le_trans (List.length_filter_le _ _) h1) (fun x hx => h2 x (List.mem_filter.1 hx).1) (h3.filter _)
theorem shr_nat (a d : Nat) : ((a : Nat) : Int) / 2 ^ ((d : Nat) : Int).toNat = ((a / 2 ^ d : Nat) : Int) := by rw [Int.toNat_natCast]; simp
theorem bucketB_len {l : List Lf} (h : leavesOk l = true) : (bucketB l).length ≤ 12301 := by
  unfold bucketB
  split
  · exact tagB_len parts_nil
  · exact tagB_len (parts_bucket h)
end Go.Proofs.YtigfpjnjjndenaaGreatDoor
