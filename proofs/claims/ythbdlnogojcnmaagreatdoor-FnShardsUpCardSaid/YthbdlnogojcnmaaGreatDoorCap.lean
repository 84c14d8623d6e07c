/- Functions by content: changes: their tests, texts, readers, and how they are applied. Changes: both readers agree; what is read back. Plain: disks, files of framed records, and what a shard makes of a record. -/
import Derived.Test.YthbdlnogojcnmaaGreatDoorFb
import Derived.Test.YthbdlnogojcnmaaGreatDoorOld
import Derived.Test.YthbdlnogojcnmaaGreatDoorFc
import Derived.Test.YthbdlnogojcnmaaGreatDoorPlainM
namespace Go.Proofs.YthbdlnogojcnmaaGreatDoor
set_option maxRecDepth 100000
set_option maxHeartbeats 1000000
set_option linter.unusedVariables false
set_option linter.unusedSimpArgs false
set_option linter.unusedSectionVars false
open Go.RowKit Pl
attribute [local irreducible] z0p z0r z0y AnsP LeP
def chL (u : Ch) : List T := [.int .i64 u.1, .str u.2.1, .str u.2.2]
def chE (us : List Ch) : List (List T) := us.map chL
def z6u (u : Ch) : Prop := (u.2.1.length : Int) ≤ 1000000000 ∧ (u.2.2.length : Int) ≤ 1000000000
theorem zhw (u : Ch) (hf : z6u u) : CT Tryz.prog 57 [] [.agg (chL u)] (.bool (z0h u.1 u.2.1 u.2.2)) [] :=
 z2D ⟨_, Tryz.func57, rfl, rfl⟩ rfl (fun X => z1t X _) fun w => by
  have h := z4R u.1 (bs u.2.1) (bs u.2.2) w (by rw [z0K]; exact hf.1) (by rw [z0K]; exact hf.2)
  rwa [z0O, z0O] at h
theorem z9N (u : Ch) (hf : z6u u) : CT Tryz.prog 117 [] [.agg (chL u)] (.bool (z0h u.1 u.2.1 u.2.2)) [] :=
 z2D ⟨_, Tryz.func117, rfl, rfl⟩ rfl (fun X => z1t X _) fun w => by
  have h := z2P u.1 (bs u.2.1) (bs u.2.2) w (by rw [z0K]; exact hf.1) (by rw [z0K]; exact hf.2)
  rwa [z0O, z0O] at h
theorem z8L {u : Ch} (h : z0h u.1 u.2.1 u.2.2 = true) : ∃ n : Nat, u.1 = n := by
 unfold z0h at h
 simp at h
 exact ⟨u.1.toNat, by omega⟩
def z3h (u : Ch) : Bs := bif z0h u.1 u.2.1 u.2.2 then z0s u.1 u.2.1 u.2.2 else []
theorem zdW (X : Cx) (s : Bs) (b : Bool) : RS X (.tup [.str s, .bool b]) (.tuple #[.string (bs s), .bool b]) :=
 ⟨_, rfl, _, _, rfl, z2w X _, _, _, rfl, z1t X _, rfl⟩
theorem zhv (u : Ch) (hf : z6u u) : CT Tryz.prog 59 [] [.agg (chL u)] (.tup [.str (z3h u), .bool (z0h u.1 u.2.1 u.2.2)]) [] := by
 unfold z3h
 cases ho : z0h u.1 u.2.1 u.2.2
 ·refine z2D ⟨_, Tryz.func59, rfl, rfl⟩ rfl (fun X => zdW X _ _) fun w => ?_
  exact zhD u.1 (bs u.2.1) (bs u.2.2) w (by rw [z0K]; exact hf.1) (by rw [z0K]; exact hf.2) (by rw [z0O, z0O]; exact ho)
 ·obtain ⟨n, hn⟩ := z8L ho
  refine z2D ⟨_, Tryz.func59, rfl, rfl⟩ rfl (fun X => zdW X _ _) fun w => ?_
  have h := zhA n (bs u.2.1) (bs u.2.2) w (by rw [z0K]; exact hf.1) (by rw [z0K]; exact hf.2) (by rw [z0O, z0O, ← hn]; exact ho)
  rw [z0O, z0O, ← hn] at h
  exact h
theorem z7G (u : Ch) (hf : z6u u) : CT Tryz.prog 119 [] [.agg (chL u)] (.tup [.str (z3h u), .bool (z0h u.1 u.2.1 u.2.2)]) [] := by
 unfold z3h
 cases ho : z0h u.1 u.2.1 u.2.2
 ·refine z2D ⟨_, Tryz.func119, rfl, rfl⟩ rfl (fun X => zdW X _ _) fun w => ?_
  exact z6s u.1 (bs u.2.1) (bs u.2.2) w (by rw [z0K]; exact hf.1) (by rw [z0K]; exact hf.2) (by rw [z0O, z0O]; exact ho)
 ·obtain ⟨n, hn⟩ := z8L ho
  refine z2D ⟨_, Tryz.func119, rfl, rfl⟩ rfl (fun X => zdW X _ _) fun w => ?_
  have h := z5T n (bs u.2.1) (bs u.2.2) w (by rw [z0K]; exact hf.1) (by rw [z0K]; exact hf.2) (by rw [z0O, z0O, ← hn]; exact ho)
  rw [z0O, z0O, ← hn] at h
  exact h
def rcT : Option (Nat × Bs × Bs) → T
 | none => .tup [.agg (chL (0, [], [])), .bool false]
 | some (a, n, v) => .tup [.agg (chL ((a : Int), n, v)), .bool true]
theorem rc_rs (o : Option (Nat × Bs × Bs)) (X : Cx) : RS X (rcT o) (rcVal o) := by
 have key : ∀ (a : Int) (n v : Bs) (b : Bool), RS X (.tup [.agg (chL (a, n, v)), .bool b]) (.tuple #[.agg #[.int .i64 a, .string (bs n), .string (bs v)], .bool b]) := fun a n v b =>
  ⟨_, rfl, _, _, rfl, ⟨_, rfl, _, _, rfl, rfl, z1q X _ _, _, _, rfl, rfl, z2w X _, _, _, rfl, rfl, z2w X _, rfl⟩, _, _, rfl, z1t X _, rfl⟩
 cases o with
 | none => exact key 0 [] [] false
 | some x => exact key _ _ _ true
theorem z8M (t : Bs) (ht : (t.length : Int) ≤ 1000000000) : CT Tryz.prog 139 [] [.str t] (rcT (z0A t)) [] :=
 z2D ⟨_, Tryz.func139, rfl, rfl⟩ rfl (rc_rs _) fun w => by
  have h := z6t (bs t) w (by rw [z0K]; exact ht)
  rwa [z0O] at h
theorem z1i {k : Nat} (l : List Lf) : ownE (.row k (lvE l)) := by
 intro e he c hc
 simp only [lvE, List.mem_map] at he
 obtain ⟨x, _, rfl⟩ := he
 simp only [List.mem_cons, List.not_mem_nil, or_false] at hc
 rcases hc with rfl | rfl <;> trivial
theorem z3p {l : List Lf} (h : z0f l = true) : (l.length : Int) ≤ 24 ∧ Fit l := by
 obtain ⟨h1, h2, _⟩ := z0w h
 refine ⟨by omega, fun i => ?_⟩
 rcases Nat.lt_or_ge i l.length with hl | hl
 ·have := h2 _ (List.getElem_mem hl)
  have a := z1f this.1
  have b := z1o this.2
  rw [z8C hl]; omega
 ·simp [lfAt, List.getD, List.getElem?_eq_none hl]
theorem zdX {l : List Lf} {n v : Bs} (h : z0f l = true) (hn : (n.length : Int) ≤ 1000000000) (hv : (v.length : Int) ≤ 1000000000) : Fit (putL l n v) := fun i => by
 rcases Nat.lt_or_ge i (putL l n v).length with hl | hl
 ·rw [z8C hl]
  rcases zgR.1 (List.getElem_mem hl) with e | e
  ·rw [e]; exact ⟨hn, hv⟩
  ·obtain ⟨_, h2, _⟩ := z0w h
   have a := z1f (h2 _ e.1).1
   have b := z1o (h2 _ e.1).2
   omega
 ·simp [lfAt, List.getD, List.getElem?_eq_none hl]
theorem z7H (l : List Lf) (u : Ch) (h : z0f l = true) (hf : z6u u) : CT Tryz.prog 147 [] [.sl 2 (lvE l), .agg (chL u)] (.ref 1) [.row 2 (lvE (z1K l u))] := by
 obtain ⟨hl, hfl⟩ := z3p h
 obtain ⟨id, n, v⟩ := u
 have cD := zcb l n (by omega) hfl
 have cP := zdP l n v (by omega) hfl (by rw [zdA (z0w h).2.2]; exact zdX h hf.1 hf.2)
 refine z01 z0M 1 rfl Tryz.func147 rfl rfl rfl ?_
 cases v with
 | nil =>
   repeat ((try conv => whnf); first | (refine ccA ([]) (cD) ?_) | (refine z0g rfl ?_) | (refine stpQ ?_))
   (refine z00 (by rfl) ?_ ?_ (by rfl)) <;> (repeat' (first | (exact eqA) | (refine shE ?_) | (refine And.intro ?_ ?_))) <;> first | rfl | decide
 | cons b v =>
   have hne : ¬ (b :: v = []) := by simp
   repeat ((try conv => whnf); first | (refine ccA ([]) (cP) ?_) | (refine z0b hne ?_) | (refine stpQ ?_))
   (refine z00 (by rfl) ?_ ?_ (by rfl)) <;> (repeat' (first | (exact eqA) | (refine shE ?_) | (refine And.intro ?_ ?_))) <;> first | rfl | decide
theorem z0D (us : List Ch) : (chE us).length = us.length := by simp [chE]
def chAt (us : List Ch) (k : Nat) : Ch := us.getD k (0, [], [])
theorem z9O {us : List Ch} {k : Nat} (h : k < us.length) : chAt us k = us[k] := by simp [chAt, List.getD, List.getElem?_eq_getElem h]
theorem z3i {us : List Ch} {k : Nat} (h : k < us.length) : (chE us)[k]? = some [.int .i64 (chAt us k).1, .str (chAt us k).2.1, .str (chAt us k).2.2] := by
 rw [z9O h]; simp [chE, chL, List.getElem?_eq_getElem h]
theorem z9P (us : List Ch) (k : Nat) (h : k < us.length) : us.take (k + 1) = us.take k ++ [chAt us k] := by
 rw [List.take_add_one, List.getElem?_eq_getElem h, z9O h]; rfl
theorem zdY {us : List Ch} {k : Nat} (f : List Lf → Ch → List Lf) (l : List Lf) (h : k < us.length) : (us.take (k + 1)).foldl f l = f ((us.take k).foldl f l) (chAt us k) := by
 rw [z9P us k h, List.foldl_append]; rfl
theorem zcj (l : List Lf) (us : List Ch) (h : z0f l = true) (hu : (us.length : Int) ≤ 1000000) (hf : ∀ k, z6u (chAt us k)) : CT Tryz.prog 112 [] [.sl 2 (lvE l), .sl 3 (chE us)] (.ref 1) [.row 2 (lvE (us.foldl z1K l))] := by
 obtain ⟨hl, hfl⟩ := z3p h
 have hlen := z0D us
 refine z01 z0M 1 rfl Tryz.func112 rfl rfl rfl ?_
 repeat ((try conv => whnf); first | (refine ccA ([]) (z1C l (by omega)) ?_) | (refine stpQ ?_))
 refine z0P Nat (fun k => ⟨[(5, .ref 1), (10, .sl 3 (chE us)), (11, .int .i64 ((chE us).length : Int)), (12, .int .i64 (k : Int))], [(1, some (.row 2 (lvE ((us.take k).foldl z1K l))))], 2⟩) (fun k => k ≤ us.length) (fun k => us.length - k) 0 (by omega) ?_ ?_
 ·(refine z04 (by rfl) ?_ ?_) <;> (repeat' (first | (exact eqA) | (refine shE ?_) | (refine And.intro ?_ ?_))) <;> first | rfl | decide
 ·intro k hk
  have hok : z0f ((us.take k).foldl z1K l) = true := z9L h
  by_cases hlt : k < us.length
  ·have hnx := zdY z1K l hlt
   have cA := z7H ((us.take k).foldl z1K l) (chAt us k) hok (hf k)
   repeat ((try conv => whnf); first | (refine i_at (z3i hlt) ?_) | (refine z3J ([1]) ([]) (cA) (by ((repeat' (first | (exact trivial) | (exact rfl) | (decide) | (refine And.intro ?_ ?_))); first | done | fail)) (by ((repeat' (first | (exact trivial) | (exact rfl) | (decide) | (refine And.intro ?_ ?_))); first | done | fail)) (by decide) (by rfl) (by first | exact .inl rfl | (refine .inr ⟨?_, ?_⟩ <;> simp [own2, own1, own0, ownE])) ?_) | (refine stpQ ?_))
   refine ⟨k + 1, by omega, by omega, ?_⟩
   (refine z04 (by rfl) ?_ ?_) <;> (repeat' (first | (exact eqA) | (refine shE ?_) | (refine And.intro ?_ ?_)))
   rw [hnx]
  ·obtain rfl : k = us.length := by omega
   rw [List.take_length] at hok ⊢
   repeat ((try conv => whnf); first | (refine stpQ ?_))
   (refine z00 (by rfl) ?_ ?_ (by rfl)) <;> (repeat' (first | (exact eqA) | (refine shE ?_) | (refine And.intro ?_ ?_)))
theorem z6v (l : List Lf) (u : Ch) (h : z0f l = true) (hf : z6u u) : CT Tryz.prog 69 [] [.sl 2 (lvE l), .agg (chL u)] (.ref 1) [.row 2 (lvE (z3f l u))] := by
 obtain ⟨hl, hfl⟩ := z3p h
 obtain ⟨id, n, v⟩ := u
 have cD := z9K l n (by omega) hfl
 have cP := zcc l n v (by omega) hfl (zdX h hf.1 hf.2)
 refine z01 z0M 1 rfl Tryz.func69 rfl rfl rfl ?_
 cases v with
 | nil =>
   repeat ((try conv => whnf); first | (refine ccA ([]) (cD) ?_) | (refine z0g rfl ?_) | (refine stpQ ?_))
   (refine z00 (by rfl) ?_ ?_ (by rfl)) <;> (repeat' (first | (exact eqA) | (refine shE ?_) | (refine And.intro ?_ ?_))) <;> first | rfl | decide
 | cons b v =>
   have hne : ¬ (b :: v = []) := by simp
   repeat ((try conv => whnf); first | (refine ccA ([]) (cP) ?_) | (refine z0b hne ?_) | (refine stpQ ?_))
   (refine z00 (by rfl) ?_ ?_ (by rfl)) <;> (repeat' (first | (exact eqA) | (refine shE ?_) | (refine And.intro ?_ ?_))) <;> first | rfl | decide
theorem zfx {us : List Ch} {l : List Lf} (h : z0f l = true) : z0f (us.foldl z3f l) = true := by rw [zdS h]; exact z9L h
theorem z9Q (l : List Lf) (us : List Ch) (h : z0f l = true) (hu : (us.length : Int) ≤ 1000000) (hf : ∀ k, z6u (chAt us k)) : CT Tryz.prog 29 [] [.sl 2 (lvE l), .sl 3 (chE us)] (.ref 1) [.row 2 (lvE (us.foldl z3f l))] := by
 obtain ⟨hl, hfl⟩ := z3p h
 have hlen := z0D us
 have hll := z0E l
 refine z01 z0M 1 rfl Tryz.func29 rfl rfl rfl ?_
 repeat ((try conv => whnf); first | (refine And.intro (by simp [z0E]; omega) ?_) | (refine stpQ ?_))
 refine z0P Nat (fun k => ⟨[(1, .sl 3 (chE us)), (5, .ref 1), (6, .int .i64 (k : Int))], [(1, some (.row 2 (lvE ((us.take k).foldl z3f l))))], 2⟩) (fun k => k ≤ us.length) (fun k => us.length - k) 0 (by omega) ?_ ?_
 ·(refine z04 (by rfl) ?_ ?_) <;> (repeat' (first | (exact eqA) | (refine shE ?_) | (refine And.intro ?_ ?_))) <;> first | rfl | decide
 ·intro k hk
  have hok : z0f ((us.take k).foldl z3f l) = true := zfx h
  by_cases hlt : k < us.length
  ·have hnx := zdY z3f l hlt
   have cA := z6v ((us.take k).foldl z3f l) (chAt us k) hok (hf k)
   repeat ((try conv => whnf); first | (refine i_at (z3i hlt) ?_) | (refine z3J ([1]) ([]) (cA) (by ((repeat' (first | (exact trivial) | (exact rfl) | (decide) | (refine And.intro ?_ ?_))); first | done | fail)) (by ((repeat' (first | (exact trivial) | (exact rfl) | (decide) | (refine And.intro ?_ ?_))); first | done | fail)) (by decide) (by rfl) (by first | exact .inl rfl | (refine .inr ⟨?_, ?_⟩ <;> simp [own2, own1, own0, ownE])) ?_) | (refine stpQ ?_))
   refine ⟨k + 1, by omega, by omega, ?_⟩
   (refine z04 (by rfl) ?_ ?_) <;> (repeat' (first | (exact eqA) | (refine shE ?_) | (refine And.intro ?_ ?_)))
   rw [hnx]
  ·obtain rfl : k = us.length := by omega
   rw [List.take_length] at hok ⊢
   repeat ((try conv => whnf); first | (refine stpQ ?_))
   (refine z00 (by rfl) ?_ ?_ (by rfl)) <;> (repeat' (first | (exact eqA) | (refine shE ?_) | (refine And.intro ?_ ?_)))
end Go.Proofs.YthbdlnogojcnmaaGreatDoor
namespace Go.Proofs.YthbdlnogojcnmaaGreatDoor
set_option linter.unusedVariables false
set_option linter.unusedSimpArgs false
set_option linter.unusedSectionVars false
open Go.RowKit Pl
theorem ze0 (t : Bs) : z0A t = z3R t := by
 rcases hA : z1I t 0 false with ⟨a, p1, b1⟩
 rcases hN : z0S t p1 b1 with ⟨n, p2, b2⟩
 rcases hV : z0S t p2 b2 with ⟨v, p3, b3⟩
 simp only [z0A, hA, hN, hV]
 simp only [z3R, zdv, hA]
 cases b1
 ·simp only [z5P, hN]
  cases b2
  ·simp only [z5P, hV]
   cases b3
   ·obtain ⟨_, _, e1, l1⟩ := zdw hA
    obtain ⟨_, _, e2, l2⟩ := z5Q hN
    obtain ⟨_, _, e3, l3⟩ := z5Q hV
    have et : t = z0s a n v ++ t.drop p3 := by
     have : t = t.drop 0 := rfl
     conv => lhs; rw [this, e1, e2, e3]
     simp [z0s]
    have el : p3 = (z0s a n v).length := by simp [z0s]; omega
    by_cases hd : t.drop p3 = []
    ·have h1 : p3 = t.length := by rw [hd, List.append_nil] at et; rw [el, ← et]
     have h2 : z0s a n v = t := by rw [hd, List.append_nil] at et; exact et.symm
     simp [z2c, h1, h2]
    ·have h1 : p3 ≠ t.length := fun c => hd (List.drop_eq_nil_of_le (by omega))
     have h2 : z0s a n v ≠ t := fun c => h1 (by rw [el, c])
     simp [z2c, h1, h2]
   ·simp [z2c]
  ·have h3 := z3O t p2
   rw [hV] at h3
   simp only at h3
   subst h3
   simp [z2c, z5O]
 ·have h2 := z3O t p1
  rw [hN] at h2
  simp only at h2
  subst h2
  have h3 := z3O t p2
  rw [hV] at h3
  simp only at h3
  subst h3
  simp [z2c, z5O]
theorem zh1 {t : Bs} {a : Nat} {n v : Bs} (h : z0A t = some (a, n, v)) : z6u ((a : Int), n, v) := by
 rw [ze0] at h
 rcases hA : numS t 0 false with ⟨a', p1, b1⟩
 rcases hN : z5O t p1 b1 with ⟨n', p2, b2⟩
 rcases hV : z5O t p2 b2 with ⟨v', p3, b3⟩
 simp only [z3R, hA, hN, hV] at h
 split at h
 ·rename_i hc
  injection h with h
  simp only [Prod.mk.injEq] at h
  obtain ⟨rfl, rfl, rfl⟩ := h
  have ho := hc.2.1
  unfold z0h at ho
  simp only [Bool.and_eq_true, Bool.or_eq_true, decide_eq_true_eq] at ho
  have h1 := z1f ho.1.2
  refine ⟨by show (n'.length : Int) ≤ _; omega, ?_⟩
  show (v'.length : Int) ≤ _
  rcases ho.2 with h2 | h2
  ·cases v' with
   | nil => simp
   | cons _ _ => cases h2
  ·have := z1o h2; omega
 ·cases h
theorem zfz {a : Nat} {n v : Bs} (h : z0h (a : Int) n v = true) : z0A (z0s (a : Int) n v) = some (a, n, v) := by
 have hb : (a : Int) ≤ 99 ∧ n.length ≤ 12 ∧ v.length ≤ 12 := by
  unfold z0h at h
  simp only [Bool.and_eq_true, Bool.or_eq_true, decide_eq_true_eq] at h
  refine ⟨h.1.1.2, z1f h.1.2, ?_⟩
  rcases h.2 with h | h
  ·cases v with
   | nil => simp
   | cons _ _ => cases h
  ·exact z1o h
 have h0 : (z0s (a : Int) n v).drop 0 = z03 a ++ (z0m n ++ z0m v) := by simp [z0s]
 have hA := z4d (by omega) h0 false
 have hd1 : (z0s (a : Int) n v).drop (0 + (z03 a).length) = z0m n ++ z0m v := by rw [← List.drop_drop, h0, List.drop_left]
 have hN := z5R (by omega) hd1 false
 have hd2 : (z0s (a : Int) n v).drop (0 + (z03 a).length + (z0m n).length) = z0m v ++ [] := by rw [← List.drop_drop, hd1, List.drop_left, List.append_nil]
 have hV := z5R (by omega) hd2 false
 simp only [z0A, hA, hN, hV, h]
 have hl : (z0s (a : Int) n v).length = (z03 a).length + (z0m n).length + (z0m v).length := by simp [z0s, Nat.add_assoc]
 simp [z2c, hl]
theorem z3x {t : Bs} {a : Nat} {n v : Bs} (h : z0A t = some (a, n, v)) : z0h (a : Int) n v = true := by
 rcases hA : z1I t 0 false with ⟨a', p1, b1⟩
 rcases hN : z0S t p1 b1 with ⟨n', p2, b2⟩
 rcases hV : z0S t p2 b2 with ⟨v', p3, b3⟩
 simp only [z0A, hA, hN, hV] at h
 split at h
 ·rename_i hc
  injection h with h
  simp only [Prod.mk.injEq] at h
  obtain ⟨rfl, rfl, rfl⟩ := h
  simp only [Bool.and_eq_true] at hc
  exact hc.2
 ·cases h
end Go.Proofs.YthbdlnogojcnmaaGreatDoor
namespace Go.Proofs.YthbdlnogojcnmaaGreatDoor
set_option linter.unusedVariables false
set_option linter.unusedSimpArgs false
set_option linter.unusedSectionVars false
open Pl
abbrev Fl := Bs × Bs × Int
def flAt (l : List Fl) (k : Nat) : Fl := l.getD k ([], [], 0)
theorem ze1 {l : List Fl} {k : Nat} (h : k < l.length) : flAt l k = l[k] := by simp [flAt, List.getD, List.getElem?_eq_getElem h]
def z29 (l : List Fl) (i : Nat) : Bool := inB ((flAt l i).1.length : Int) 1 8 && decide (((flAt l i).2.1.length : Int) ≤ 20000) && inB (flAt l i).2.2 0 ((flAt l i).2.1.length : Int) && (i == 0 || ltB (flAt l (i - 1)).1 (flAt l i).1)
def z1b (l : List Fl) : Bool := decide (l.length ≤ 30) && (List.range l.length).all (z29 l)
theorem z3q {l : List Fl} {k : Nat} (hk : k < l.length) (h : z29 l k = false) : z1b l = false := by
 have : (List.range l.length).all (z29 l) = false := by
  rw [List.all_eq_false]
  exact ⟨k, List.mem_range.2 hk, by simp [h]⟩
 rw [z1b, this, Bool.and_false]
theorem z62 {l : List Fl} (h : 30 < l.length) : z1b l = false := by
 have : decide (l.length ≤ 30) = false := by simp; omega
 rw [z1b, this, Bool.false_and]
theorem z2j {l : List Fl} (hl : l.length ≤ 30) (h : ∀ k, k < l.length → z29 l k = true) : z1b l = true := by
 have h1 : decide (l.length ≤ 30) = true := by simpa using hl
 have h2 : (List.range l.length).all (z29 l) = true := List.all_eq_true.2 fun k hk => h k (List.mem_range.1 hk)
 rw [z1b, h1, h2]; rfl
theorem zck {l : List Fl} : z1b l = true ↔ l.length ≤ 30 ∧ ∀ k, k < l.length → z29 l k = true := by
 constructor
 ·intro h
  rw [z1b, Bool.and_eq_true, decide_eq_true_iff, List.all_eq_true] at h
  exact ⟨h.1, fun k hk => h.2 k (List.mem_range.2 hk)⟩
 ·rintro ⟨h1, h2⟩; exact z2j h1 h2
theorem zcl {l : List Fl} {k : Nat} (h : z29 l k = true) : (flAt l k).2.1.length ≤ 20000 := by
 simp only [z29, Bool.and_eq_true, decide_eq_true_eq] at h
 have := h.1.1.2
 omega
def z1F (l : List Fl) (n : Bs) : Option Nat := l.findIdx? fun x => x.1 == n
theorem z7K {l : List Fl} {n : Bs} {k : Nat} (h : k < l.length) (hx : ∀ j, j < k → (flAt l j).1 ≠ n) (he : (flAt l k).1 = n) : z1F l n = some k := by
 rw [z1F, List.findIdx?_eq_some_iff_getElem]
 refine ⟨h, by rw [← ze1 h, he]; simp, fun j hj => ?_⟩
 have := hx j hj
 rw [ze1 (by omega)] at this
 simpa using this
theorem ze2 {l : List Fl} {n : Bs} (hx : ∀ j, j < l.length → (flAt l j).1 ≠ n) : z1F l n = none := by
 rw [z1F, List.findIdx?_eq_none_iff]
 intro x hm
 obtain ⟨j, hj, rfl⟩ := List.getElem_of_mem hm
 have := hx j hj
 rw [ze1 hj] at this
 simpa using this
theorem ze3 {l : List Fl} {n : Bs} {k : Nat} (h : z1F l n = some k) : k < l.length := by
 rw [z1F, List.findIdx?_eq_some_iff_getElem] at h
 exact h.1
def ixI : Option Nat → Int
 | some k => (k : Int)
 | none => -1
def z1G (l : List Fl) (n : Bs) : Option Bs := (z1F l n).map fun i => (flAt l i).2.1
theorem z9U {l : List Fl} {n t : Bs} (h : z1b l = true) (hg : z1G l n = some t) : t.length ≤ 20000 := by
 unfold z1G at hg
 cases hi : z1F l n with
 | none => rw [hi] at hg; cases hg
 | some k =>
   rw [hi] at hg
   injection hg with hg
   subst hg
   exact zcl ((zck.1 h).2 k (ze3 hi))
def z0N (t : Bs) : Bs := z03 t.length ++ z1Z (z1U t) ++ t
def unf (f : Bs) : Nat → Nat → List Bs × Nat
 | 0, p => ([], p)
 | k + 1, p => match z0u f p with
   | none => ([], p)
   | some (n, q) => if 1 ≤ n ∧ n ≤ 9000 ∧ n + 4 ≤ f.length - q ∧ (f.drop q).take 4 = z1Z (z1U ((f.drop (q + 4)).take n)) then
      (((f.drop (q + 4)).take n) :: (unf f k (q + 4 + n)).1, (unf f k (q + 4 + n)).2)
     else ([], p)
def z0R (f : Bs) : List Bs × Nat := if 20000 < f.length then ([], 0) else unf f (f.length + 1) 0
def UfAt (R : List Bs × Nat) (f : Bs) (k : Nat) (l : List Bs) (p : Nat) : Prop := R = (l ++ (unf f k p).1, (unf f k p).2)
theorem UfAt.stop {R : List Bs × Nat} {f : Bs} {k : Nat} {l : List Bs} {p : Nat} (h : UfAt R f (k + 1) l p) (hr : z0u f p = none) : R = (l, p) := by
 rw [h, unf, hr]; simp
theorem UfAt.bad {R : List Bs × Nat} {f : Bs} {k : Nat} {l : List Bs} {p n q : Nat} (h : UfAt R f (k + 1) l p) (hr : z0u f p = some (n, q))
 (hn : ¬ (1 ≤ n ∧ n ≤ 9000 ∧ n + 4 ≤ f.length - q ∧ (f.drop q).take 4 = z1Z (z1U ((f.drop (q + 4)).take n)))) : R = (l, p) := by
 rw [h, unf, hr]; simp only; rw [if_neg hn]; simp
theorem UfAt.step {R : List Bs × Nat} {f : Bs} {k : Nat} {l : List Bs} {p n q : Nat} (h : UfAt R f (k + 1) l p) (hr : z0u f p = some (n, q))
 (hn : 1 ≤ n ∧ n ≤ 9000 ∧ n + 4 ≤ f.length - q ∧ (f.drop q).take 4 = z1Z (z1U ((f.drop (q + 4)).take n))) : UfAt R f k (l ++ [(f.drop (q + 4)).take n]) (q + 4 + n) := by
 unfold UfAt at h ⊢
 rw [h, unf, hr]; simp only; rw [if_pos hn]; simp
theorem z8Q (f : Bs) : ∀ k p, (∀ t ∈ (unf f k p).1, 1 ≤ t.length ∧ t.length ≤ 9000) ∧ (unf f k p).1.length ≤ k
 | 0, p => ⟨fun t h => by simp [unf] at h, by simp [unf]⟩
 | k + 1, p => by
   rw [unf]
   split
   ·exact ⟨fun t h => by simp at h, by simp⟩
   ·rename_i n q hr
    split
    ·rename_i hc
     have ih := z8Q f k (q + 4 + n)
     refine ⟨fun t h => ?_, by simp; exact ih.2⟩
     simp only [List.mem_cons] at h
     rcases h with rfl | h
     ·simp; omega
     ·exact ih.1 t h
    ·exact ⟨fun t h => by simp at h, by simp⟩
theorem z7L (f : Bs) : (∀ t ∈ (z0R f).1, 1 ≤ t.length ∧ t.length ≤ 9000) ∧ (z0R f).1.length ≤ 20001 := by
 unfold z0R
 split
 ·exact ⟨fun t h => by simp at h, by simp⟩
 ·have := z8Q f (f.length + 1) 0
  exact ⟨this.1, by have := this.2; omega⟩
theorem ze4 {f : Bs} {p n q : Nat} (hr : z0u f p = some (n, q)) (hn : n + 4 ≤ f.length - q) :
 z0N ((f.drop (q + 4)).take n) = (f.drop p).take (q + 4 + n - p) ↔ (f.drop q).take 4 = z1Z (z1U ((f.drop (q + 4)).take n)) := by
 obtain ⟨he, hq⟩ := z3M hr
 have hl : ((f.drop (q + 4)).take n).length = n := by simp; omega
 have e : (f.drop p).take (q + 4 + n - p) = z03 n ++ (f.drop q).take 4 ++ (f.drop (q + 4)).take n := by
  rw [he, hq, show p + (z03 n).length + 4 + n - p = (z03 n).length + (4 + n) by omega, List.take_length_add_append, List.take_add, List.drop_drop, List.append_assoc]
 rw [e, z0N, hl, List.append_cancel_right_eq, List.append_cancel_left_eq]
 exact eq_comm
def z0Y (l : List Fl) (n : Bs) : List Bs := if z1b l = true then (z0R ((z1G l n).getD [])).1 else []
theorem z2u (l : List Fl) (n : Bs) : (∀ t ∈ z0Y l n, 1 ≤ t.length ∧ t.length ≤ 9000) ∧ (z0Y l n).length ≤ 20001 := by
 unfold z0Y
 split
 ·exact z7L _
 ·exact ⟨fun t h => by simp at h, by simp⟩
def z1L (nm : Bs) (K : Int) : Nat := if 0 ≤ K ∧ K ≤ 2 then ixB nm / 2 ^ (8 - K.toNat) else 0
structure Sv where
 ep : Nat
 vs : List (List Lf)
 tk : List Nat
 al : List Ch
 re : Nat
 rt : Nat
 rk : Nat
def sv0 : Sv := ⟨0, [[]], [0], [], 0, 0, 0⟩
def z1s (s : Sv) : List Lf := (s.al.take s.rk).foldl z1K []
def z11 (s : Sv) : Sv := ⟨s.ep + 1, s.vs ++ [z1s s], s.tk ++ [s.rk], s.al, 0, 0, 0⟩
def z3j (l : List Nat) : Nat := l.getLastD 0
def idIx (l : List Ch) (id : Int) : Option Nat := l.findIdx? fun x => x.1 == id
inductive Rk where
 | no | all (u : Ch) | rdy (e y k : Nat) | com
def num1 (t : Bs) : Nat × Nat × Bool := z1I t 1 false
def num2 (t : Bs) : Nat × Nat × Bool := z1I t (num1 t).2.1 (num1 t).2.2
def num3 (t : Bs) : Nat × Nat × Bool := z1I t (num2 t).2.1 (num2 t).2.2
def rkOf (a K : Int) (s : Sv) : Bs → Rk
 | [] => .no
 | b :: r =>
   if b.toNat = 1 then match z0A r with
    | some (id, n, v) => if (z1L n K : Int) = a ∧ idIx s.al (id : Int) = none then .all ((id : Int), n, v) else .no
    | none => .no
   else if b.toNat = 2 then
    if z2c (num3 (b :: r)).2.2 (num3 (b :: r)).2.1 (r.length + 1) = true ∧ (num1 (b :: r)).1 = s.ep + 1 ∧ (num1 (b :: r)).1 ≤ 4 ∧ s.rt < (num2 (b :: r)).1 ∧ (num2 (b :: r)).1 ≤ 1000 ∧
     z3j s.tk ≤ (num3 (b :: r)).1 ∧ (num3 (b :: r)).1 ≤ s.al.length
    then .rdy (num1 (b :: r)).1 (num2 (b :: r)).1 (num3 (b :: r)).1 else .no
   else if b.toNat = 3 then
    if z2c (num1 (b :: r)).2.2 (num1 (b :: r)).2.1 (r.length + 1) = true ∧ (num1 (b :: r)).1 = s.re ∧ (num1 (b :: r)).1 ≠ 0 then .com else .no
   else if b.toNat = 4 then
    if z2c (num2 (b :: r)).2.2 (num2 (b :: r)).2.1 (r.length + 1) = true ∧ (num1 (b :: r)).1 = s.re ∧ (num2 (b :: r)).1 = s.rt ∧ (num1 (b :: r)).1 ≠ 0 then .rdy 0 0 0 else .no
   else .no
def rkDo (s : Sv) : Rk → Sv
 | .no => s
 | .all u => { s with al := s.al ++ [u] }
 | .rdy e y k => { s with re := e, rt := y, rk := k }
 | .com => z11 s
def z6w (a K : Int) (s : Sv) (t : Bs) : Sv := rkDo s (rkOf a K s t)
def svOf (a K : Int) (ts : List Bs) : Sv := ts.foldl (z6w a K) sv0
structure SvOk (n : Nat) (s : Sv) : Prop where
 ep : s.ep ≤ 4
 vl : s.vs.length = s.ep + 1
 tl : s.tk.length = s.ep + 1
 al : s.al.length ≤ n
 tb : ∀ x ∈ s.tk, x ≤ s.al.length
 ch : ∀ u ∈ s.al, z0h u.1 u.2.1 u.2.2 = true
 re : s.re = 0 ∨ s.re = s.ep + 1
 r4 : s.re ≤ 4
 rt : s.rt ≤ 1000
 rk : s.rk ≤ s.al.length
 vo : ∀ v ∈ s.vs, z0f v = true
theorem sv0_ok : SvOk 0 sv0 := ⟨by decide, rfl, rfl, Nat.le_refl _, by simp [sv0], by simp [sv0], .inl rfl, by decide, by decide, by decide, by simp [sv0, z0f]⟩
theorem z63 (s : Sv) : z0f (z1s s) = true := z9L (by simp [z0f])
theorem zfA {a K : Int} {n : Nat} {s : Sv} {t : Bs} (h : SvOk n s) : SvOk (n + 1) (z6w a K s t) := by
 have weak : SvOk (n + 1) s := { h with al := by have := h.al; omega }
 unfold z6w
 cases t with
 | nil => exact weak
 | cons b r =>
   rw [rkOf]
   split
   ·split
    ·rename_i id nm v hr
     split
     ·rename_i hc
      refine { h with al := by simp [rkDo]; exact h.al, tb := fun x hx => ?_, ch := fun u hu => ?_, rk := ?_ }
      ·have := h.tb x hx; simp [rkDo]; omega
      ·simp only [rkDo, List.mem_append, List.mem_singleton] at hu
       rcases hu with hu | rfl
       ·exact h.ch u hu
       ·exact z3x hr
      ·have := h.rk; simp [rkDo]; omega
     ·exact weak
    ·exact weak
   ·split
    ·split
     ·rename_i hc
      obtain ⟨-, h1, h2, h3, h4, h5, h6⟩ := hc
      exact { weak with re := .inr h1, r4 := h2, rt := h4, rk := h6 }
     ·exact weak
    ·split
     ·split
      ·rename_i hc
       obtain ⟨-, h1, h2⟩ := hc
       have hre : s.re = s.ep + 1 := by rcases h.re with e | e <;> omega
       have h4 := h.r4
       refine ⟨by simp [rkDo, z11]; omega, by simp [rkDo, z11, h.vl], by simp [rkDo, z11, h.tl], weak.al, fun x hx => ?_, h.ch, .inl rfl, by simp [rkDo, z11], by simp [rkDo, z11], by simp [rkDo, z11], fun v hv => ?_⟩
       ·simp only [rkDo, z11, List.mem_append, List.mem_singleton] at hx ⊢
        rcases hx with hx | rfl
        ·exact h.tb x hx
        ·exact h.rk
       ·simp only [rkDo, z11, List.mem_append, List.mem_singleton] at hv
        rcases hv with hv | rfl
        ·exact h.vo v hv
        ·exact z63 s
      ·exact weak
     ·split
      ·split
       ·exact { weak with re := .inl rfl, r4 := by simp [rkDo], rt := by simp [rkDo], rk := by simp [rkDo] }
       ·exact weak
      ·exact weak
theorem z8R (a K : Int) : ∀ (ts : List Bs) (s : Sv) (n : Nat), SvOk n s → SvOk (n + ts.length) (ts.foldl (z6w a K) s)
 | [], s, n, h => h
 | t :: ts, s, n, h => by
   have := z8R a K ts _ _ (zfA (a := a) (K := K) (t := t) h)
   rw [List.length_cons, show n + (ts.length + 1) = n + 1 + ts.length by omega]
   exact this
theorem z9V (a K : Int) (ts : List Bs) : SvOk ts.length (svOf a K ts) := by
 have := z8R a K ts sv0 0 sv0_ok
 rwa [Nat.zero_add] at this
theorem zh2 (a K : Int) {ts : List Bs} {k : Nat} (h : k < ts.length) : svOf a K (ts.take (k + 1)) = z6w a K (svOf a K (ts.take k)) ts[k] := by
 unfold svOf
 rw [List.take_succ_eq_append_getElem h, List.foldl_append]; rfl
end Go.Proofs.YthbdlnogojcnmaaGreatDoor
