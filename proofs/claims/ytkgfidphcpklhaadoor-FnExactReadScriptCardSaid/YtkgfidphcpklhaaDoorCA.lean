/- Functions by content: changes: their tests, texts, readers, and how they are applied. -/
import Derived.Test.YtkgfidphcpklhaaDoorFFJ
import Derived.Test.YtkgfidphcpklhaaDoorChg
import Derived.Test.YtkgfidphcpklhaaDoorFCD
import Derived.Test.YtkgfidphcpklhaaDoorPlainChange
import Derived.Test.YtkgfidphcpklhaaDoorFHI
namespace Go.Proofs.YtkgfidphcpklhaaDoor
open Go.RowKit Pl
set_option linter.unusedVariables false
set_option linter.unusedSimpArgs false
attribute [local irreducible] CondB CallP LoopW AnsP LeP

def chL (u : Ch) : List T := [.int .i64 u.1, .str u.2.1, .str u.2.2]
def chE (us : List Ch) : List (List T) := us.map chL
def ChFit (u : Ch) : Prop := (u.2.1.length : Int) ≤ 1000000000 ∧ (u.2.2.length : Int) ≤ 1000000000
theorem c_ChangeOk (u : Ch) (hf : ChFit u) : CT Tryd.prog 89 [] [.agg (chL u)] (.bool (changeOk u.1 u.2.1 u.2.2)) [] :=
  old_ct ⟨_, Tryd.func89, rfl, rfl⟩ rfl (fun X => mk_bool X _) fun w => by
    have h := changeOk_any u.1 (bs u.2.1) (bs u.2.2) w (by rw [bs_size]; exact hf.1) (by rw [bs_size]; exact hf.2)
    rwa [bs_data, bs_data] at h
theorem c_sChangeOk (u : Ch) (hf : ChFit u) : CT Tryd.prog 73 [] [.agg (chL u)] (.bool (changeOk u.1 u.2.1 u.2.2)) [] :=
  old_ct ⟨_, Tryd.func73, rfl, rfl⟩ rfl (fun X => mk_bool X _) fun w => by
    have h := sChangeOk_any u.1 (bs u.2.1) (bs u.2.2) w (by rw [bs_size]; exact hf.1) (by rw [bs_size]; exact hf.2)
    rwa [bs_data, bs_data] at h
theorem changeOk_nat {u : Ch} (h : changeOk u.1 u.2.1 u.2.2 = true) : ∃ n : Nat, u.1 = n := by
  unfold changeOk at h
  simp at h
  exact ⟨u.1.toNat, by omega⟩
def chText (u : Ch) : Bs := bif changeOk u.1 u.2.1 u.2.2 then changeText u.1 u.2.1 u.2.2 else []
theorem pair_rs (X : Cx) (s : Bs) (b : Bool) : RS X (.tup [.str s, .bool b]) (.tuple #[.string (bs s), .bool b]) :=
  ⟨_, rfl, _, _, rfl, mk_str X _, _, _, rfl, mk_bool X _, rfl⟩
def rcT : Option (Nat × Bs × Bs) → T
  | none => .tup [.agg (chL (0, [], [])), .bool false]
  | some (a, n, v) => .tup [.agg (chL ((a : Int), n, v)), .bool true]
theorem rc_rs (o : Option (Nat × Bs × Bs)) (X : Cx) : RS X (rcT o) (rcVal o) := by
  have key : ∀ (a : Int) (n v : Bs) (b : Bool), RS X (.tup [.agg (chL (a, n, v)), .bool b]) (.tuple #[.agg #[.int .i64 a, .string (bs n), .string (bs v)], .bool b]) := fun a n v b =>
    ⟨_, rfl, _, _, rfl, ⟨_, rfl, _, _, rfl, rfl, mk_int X _ _, _, _, rfl, rfl, mk_str X _, _, _, rfl, rfl, mk_str X _, rfl⟩, _, _, rfl, mk_bool X _, rfl⟩
  cases o with
  | none => exact key 0 [] [] false
  | some x => exact key _ _ _ true
theorem own_lvE {k : Nat} (l : List Lf) : ownE (.row k (lvE l)) := by
  intro e he c hc
  simp only [lvE, List.mem_map] at he
  obtain ⟨x, _, rfl⟩ := he
  simp only [List.mem_cons, List.not_mem_nil, or_false] at hc
  rcases hc with rfl | rfl <;> trivial
theorem own_chE {k : Nat} (l : List Ch) : ownE (.row k (chE l)) := by
  intro e he c hc
  simp only [chE, List.mem_map] at he
  obtain ⟨x, _, rfl⟩ := he
  simp only [chL, List.mem_cons, List.not_mem_nil, or_false] at hc
  rcases hc with rfl | rfl | rfl <;> trivial
/-! ### applied -/
theorem ok_small {l : List Lf} (h : leavesOk l = true) : (l.length : Int) ≤ 24 ∧ Fit l := by
  obtain ⟨h1, h2, _⟩ := ok_sorted h
  refine ⟨by omega, fun i => ?_⟩
  rcases Nat.lt_or_ge i l.length with hl | hl
  · have := h2 _ (List.getElem_mem hl)
    have a := nameOk_len this.1
    have b := valueOk_len this.2
    rw [lf_at hl]; omega
  · simp [lfAt, List.getD, List.getElem?_eq_none hl]
theorem put_fit {l : List Lf} {n v : Bs} (h : leavesOk l = true) (hn : (n.length : Int) ≤ 1000000000) (hv : (v.length : Int) ≤ 1000000000) : Fit (putL l n v) := fun i => by
  rcases Nat.lt_or_ge i (putL l n v).length with hl | hl
  · rw [lf_at hl]
    rcases put_mem.1 (List.getElem_mem hl) with e | e
    · rw [e]; exact ⟨hn, hv⟩
    · obtain ⟨_, h2, _⟩ := ok_sorted h
      have a := nameOk_len (h2 _ e.1).1
      have b := valueOk_len (h2 _ e.1).2
      omega
  · simp [lfAt, List.getD, List.getElem?_eq_none hl]
theorem ch_len (us : List Ch) : (chE us).length = us.length := by simp [chE]
def chAt (us : List Ch) (k : Nat) : Ch := us.getD k (0, [], [])
theorem ch_at {us : List Ch} {k : Nat} (h : k < us.length) : chAt us k = us[k] := by simp [chAt, List.getD, List.getElem?_eq_getElem h]
theorem ch_get {us : List Ch} {k : Nat} (h : k < us.length) : (chE us)[k]? = some [.int .i64 (chAt us k).1, .str (chAt us k).2.1, .str (chAt us k).2.2] := by
  rw [ch_at h]; simp [chE, chL, List.getElem?_eq_getElem h]
theorem ch_next (us : List Ch) (k : Nat) (h : k < us.length) : us.take (k + 1) = us.take k ++ [chAt us k] := by
  rw [List.take_add_one, List.getElem?_eq_getElem h, ch_at h]; rfl
theorem ch_fold {us : List Ch} {k : Nat} (f : List Lf → Ch → List Lf) (l : List Lf) (h : k < us.length) : (us.take (k + 1)).foldl f l = f ((us.take k).foldl f l) (chAt us k) := by
  rw [ch_next us k h, List.foldl_append]; rfl
/-! ### the reference's -/
theorem foldS_ok {us : List Ch} {l : List Lf} (h : leavesOk l = true) : leavesOk (us.foldl applyS l) = true := by rw [fold_eq h]; exact fold_ok h
end Go.Proofs.YtkgfidphcpklhaaDoor
