/- Functions by content: changes: their tests, texts, readers, and how they are applied. Changes: both readers agree; what is read back. Plain: disks, files of framed records, and what a shard makes of a record. -/
import Derived.Test.YtfjbinbpgdiafaaGreatDoorFb
import Derived.Test.YtfjbinbpgdiafaaGreatDoorOld
import Derived.Test.YtfjbinbpgdiafaaGreatDoorFc
import Derived.Test.YtfjbinbpgdiafaaGreatDoorPlainM
namespace Go.Proofs.YtfjbinbpgdiafaaGreatDoor
set_option maxRecDepth 100000
set_option maxHeartbeats 1000000
set_option linter.unusedVariables false
set_option linter.unusedSimpArgs false
set_option linter.unusedSectionVars false
open Go.RowKit Pl
attribute [local irreducible] z0r z0s z0z AnsP LeP
def chL (u : Ch) : List T := [.int .i64 u.1, .str u.2.1, .str u.2.2]
def chE (us : List Ch) : List (List T) := us.map chL
def z52 (u : Ch) : Prop := (u.2.1.length : Int) ≤ 1000000000 ∧ (u.2.2.length : Int) ≤ 1000000000
theorem z9Q (u : Ch) (hf : z52 u) : CT Tryz.prog 149 [] [.agg (chL u)] (.bool (z0g u.1 u.2.1 u.2.2)) [] :=
 z2V ⟨_, Tryz.func149, rfl, rfl⟩ rfl (fun X => z1B X _) fun w => by
  have h := z2Q u.1 (bs u.2.1) (bs u.2.2) w (by rw [z0M]; exact hf.1) (by rw [z0M]; exact hf.2)
  rwa [z0S, z0S] at h
theorem z8F {u : Ch} (h : z0g u.1 u.2.1 u.2.2 = true) : ∃ n : Nat, u.1 = n := by
 unfold z0g at h
 simp at h
 exact ⟨u.1.toNat, by omega⟩
def z3d (u : Ch) : Bs := bif z0g u.1 u.2.1 u.2.2 then z0t u.1 u.2.1 u.2.2 else []
theorem zdJ (X : Cx) (s : Bs) (b : Bool) : RS X (.tup [.str s, .bool b]) (.tuple #[.string (bs s), .bool b]) :=
 ⟨_, rfl, _, _, rfl, z2x X _, _, _, rfl, z1B X _, rfl⟩
theorem z7G (u : Ch) (hf : z52 u) : CT Tryz.prog 151 [] [.agg (chL u)] (.tup [.str (z3d u), .bool (z0g u.1 u.2.1 u.2.2)]) [] := by
 unfold z3d
 cases ho : z0g u.1 u.2.1 u.2.2
 ·refine z2V ⟨_, Tryz.func151, rfl, rfl⟩ rfl (fun X => zdJ X _ _) fun w => ?_
  exact z6w u.1 (bs u.2.1) (bs u.2.2) w (by rw [z0M]; exact hf.1) (by rw [z0M]; exact hf.2) (by rw [z0S, z0S]; exact ho)
 ·obtain ⟨n, hn⟩ := z8F ho
  refine z2V ⟨_, Tryz.func151, rfl, rfl⟩ rfl (fun X => zdJ X _ _) fun w => ?_
  have h := z5W n (bs u.2.1) (bs u.2.2) w (by rw [z0M]; exact hf.1) (by rw [z0M]; exact hf.2) (by rw [z0S, z0S, ← hn]; exact ho)
  rw [z0S, z0S, ← hn] at h
  exact h
def rcT : Option (Nat × Bs × Bs) → T
 | none => .tup [.agg (chL (0, [], [])), .bool false]
 | some (a, n, v) => .tup [.agg (chL ((a : Int), n, v)), .bool true]
theorem rc_rs (o : Option (Nat × Bs × Bs)) (X : Cx) : RS X (rcT o) (rcVal o) := by
 have key : ∀ (a : Int) (n v : Bs) (b : Bool), RS X (.tup [.agg (chL (a, n, v)), .bool b]) (.tuple #[.agg #[.int .i64 a, .string (bs n), .string (bs v)], .bool b]) := fun a n v b =>
  ⟨_, rfl, _, _, rfl, ⟨_, rfl, _, _, rfl, rfl, z1w X _ _, _, _, rfl, rfl, z2x X _, _, _, rfl, rfl, z2x X _, rfl⟩, _, _, rfl, z1B X _, rfl⟩
 cases o with
 | none => exact key 0 [] [] false
 | some x => exact key _ _ _ true
theorem z8G (t : Bs) (ht : (t.length : Int) ≤ 1000000000) : CT Tryz.prog 164 [] [.str t] (rcT (z0E t)) [] :=
 z2V ⟨_, Tryz.func164, rfl, rfl⟩ rfl (rc_rs _) fun w => by
  have h := z6x (bs t) w (by rw [z0M]; exact ht)
  rwa [z0S] at h
theorem z16 {k : Nat} (l : List Lf) : ownE (.row k (lvE l)) := by
 intro e he c hc
 simp only [lvE, List.mem_map] at he
 obtain ⟨x, _, rfl⟩ := he
 simp only [List.mem_cons, List.not_mem_nil, or_false] at hc
 rcases hc with rfl | rfl <;> trivial
theorem z4j {l : List Lf} (h : z0b l = true) : (l.length : Int) ≤ 24 ∧ Fit l := by
 obtain ⟨h1, h2, _⟩ := z0n h
 refine ⟨by omega, fun i => ?_⟩
 rcases Nat.lt_or_ge i l.length with hl | hl
 ·have := h2 _ (List.getElem_mem hl)
  have a := z0D this.1
  have b := z11 this.2
  rw [z5T hl]; omega
 ·simp [lfAt, List.getD, List.getElem?_eq_none hl]
theorem zdK {l : List Lf} {n v : Bs} (h : z0b l = true) (hn : (n.length : Int) ≤ 1000000000) (hv : (v.length : Int) ≤ 1000000000) : Fit (putL l n v) := fun i => by
 rcases Nat.lt_or_ge i (putL l n v).length with hl | hl
 ·rw [z5T hl]
  rcases zgL.1 (List.getElem_mem hl) with e | e
  ·rw [e]; exact ⟨hn, hv⟩
  ·obtain ⟨_, h2, _⟩ := z0n h
   have a := z0D (h2 _ e.1).1
   have b := z11 (h2 _ e.1).2
   omega
 ·simp [lfAt, List.getD, List.getElem?_eq_none hl]
theorem z7H (l : List Lf) (u : Ch) (h : z0b l = true) (hf : z52 u) : CT Tryz.prog 219 [] [.sl 2 (lvE l), .agg (chL u)] (.ref 1) [.row 2 (lvE (z1L l u))] := by
 obtain ⟨hl, hfl⟩ := z4j h
 obtain ⟨id, n, v⟩ := u
 have cD := zc3 l n (by omega) hfl
 have cP := zdC l n v (by omega) hfl (by rw [zdo (z0n h).2.2]; exact zdK h hf.1 hf.2)
 refine z01 z0v 1 rfl Tryz.func219 rfl rfl rfl ?_
 cases v with
 | nil =>
   repeat ((try conv => whnf); first | (refine ccA ([]) (cD) ?_) | (refine z0h rfl ?_) | (refine stpQ ?_))
   (refine z00 (by rfl) ?_ ?_ (by rfl)) <;> (repeat' (first | (exact eqA) | (refine shE ?_) | (refine And.intro ?_ ?_))) <;> first | rfl | decide
 | cons b v =>
   have hne : ¬ (b :: v = []) := by simp
   repeat ((try conv => whnf); first | (refine ccA ([]) (cP) ?_) | (refine z0c hne ?_) | (refine stpQ ?_))
   (refine z00 (by rfl) ?_ ?_ (by rfl)) <;> (repeat' (first | (exact eqA) | (refine shE ?_) | (refine And.intro ?_ ?_))) <;> first | rfl | decide
theorem z0R (us : List Ch) : (chE us).length = us.length := by simp [chE]
def chAt (us : List Ch) (k : Nat) : Ch := us.getD k (0, [], [])
theorem z9R {us : List Ch} {k : Nat} (h : k < us.length) : chAt us k = us[k] := by simp [chAt, List.getD, List.getElem?_eq_getElem h]
theorem z3A {us : List Ch} {k : Nat} (h : k < us.length) : (chE us)[k]? = some [.int .i64 (chAt us k).1, .str (chAt us k).2.1, .str (chAt us k).2.2] := by
 rw [z9R h]; simp [chE, chL, List.getElem?_eq_getElem h]
theorem z9S (us : List Ch) (k : Nat) (h : k < us.length) : us.take (k + 1) = us.take k ++ [chAt us k] := by
 rw [List.take_add_one, List.getElem?_eq_getElem h, z9R h]; rfl
theorem zdL {us : List Ch} {k : Nat} (f : List Lf → Ch → List Lf) (l : List Lf) (h : k < us.length) : (us.take (k + 1)).foldl f l = f ((us.take k).foldl f l) (chAt us k) := by
 rw [z9S us k h, List.foldl_append]; rfl
theorem zca (l : List Lf) (us : List Ch) (h : z0b l = true) (hu : (us.length : Int) ≤ 1000000) (hf : ∀ k, z52 (chAt us k)) : CT Tryz.prog 203 [] [.sl 2 (lvE l), .sl 3 (chE us)] (.ref 1) [.row 2 (lvE (us.foldl z1L l))] := by
 obtain ⟨hl, hfl⟩ := z4j h
 have hlen := z0R us
 refine z01 z0v 1 rfl Tryz.func203 rfl rfl rfl ?_
 repeat ((try conv => whnf); first | (refine ccA ([]) (z1X l (by omega)) ?_) | (refine stpQ ?_))
 refine z0K Nat (fun k => ⟨[(5, .ref 1), (10, .sl 3 (chE us)), (11, .int .i64 ((chE us).length : Int)), (12, .int .i64 (k : Int))], [(1, some (.row 2 (lvE ((us.take k).foldl z1L l))))], 2⟩) (fun k => k ≤ us.length) (fun k => us.length - k) 0 (by omega) ?_ ?_
 ·(refine z02 (by rfl) ?_ ?_) <;> (repeat' (first | (exact eqA) | (refine shE ?_) | (refine And.intro ?_ ?_))) <;> first | rfl | decide
 ·intro k hk
  have hok : z0b ((us.take k).foldl z1L l) = true := z9O h
  by_cases hlt : k < us.length
  ·have hnx := zdL z1L l hlt
   have cA := z7H ((us.take k).foldl z1L l) (chAt us k) hok (hf k)
   repeat ((try conv => whnf); first | (refine i_at (z3A hlt) ?_) | (refine z3N ([1]) ([]) (cA) (by ((repeat' (first | (exact trivial) | (exact rfl) | (decide) | (refine And.intro ?_ ?_))); first | done | fail)) (by ((repeat' (first | (exact trivial) | (exact rfl) | (decide) | (refine And.intro ?_ ?_))); first | done | fail)) (by decide) (by rfl) (by first | exact .inl rfl | (refine .inr ⟨?_, ?_⟩ <;> simp [own2, own1, own0, ownE])) ?_) | (refine stpQ ?_))
   refine ⟨k + 1, by omega, by omega, ?_⟩
   (refine z02 (by rfl) ?_ ?_) <;> (repeat' (first | (exact eqA) | (refine shE ?_) | (refine And.intro ?_ ?_)))
   rw [hnx]
  ·obtain rfl : k = us.length := by omega
   rw [List.take_length] at hok ⊢
   repeat ((try conv => whnf); first | (refine stpQ ?_))
   (refine z00 (by rfl) ?_ ?_ (by rfl)) <;> (repeat' (first | (exact eqA) | (refine shE ?_) | (refine And.intro ?_ ?_)))
theorem z6y (l : List Lf) (u : Ch) (h : z0b l = true) (hf : z52 u) : CT Tryz.prog 217 [] [.sl 2 (lvE l), .agg (chL u)] (.ref 1) [.row 2 (lvE (z3c l u))] := by
 obtain ⟨hl, hfl⟩ := z4j h
 obtain ⟨id, n, v⟩ := u
 have cD := z9N l n (by omega) hfl
 have cP := zc4 l n v (by omega) hfl (zdK h hf.1 hf.2)
 refine z01 z0v 1 rfl Tryz.func217 rfl rfl rfl ?_
 cases v with
 | nil =>
   repeat ((try conv => whnf); first | (refine ccA ([]) (cD) ?_) | (refine z0h rfl ?_) | (refine stpQ ?_))
   (refine z00 (by rfl) ?_ ?_ (by rfl)) <;> (repeat' (first | (exact eqA) | (refine shE ?_) | (refine And.intro ?_ ?_))) <;> first | rfl | decide
 | cons b v =>
   have hne : ¬ (b :: v = []) := by simp
   repeat ((try conv => whnf); first | (refine ccA ([]) (cP) ?_) | (refine z0c hne ?_) | (refine stpQ ?_))
   (refine z00 (by rfl) ?_ ?_ (by rfl)) <;> (repeat' (first | (exact eqA) | (refine shE ?_) | (refine And.intro ?_ ?_))) <;> first | rfl | decide
theorem zf9 {us : List Ch} {l : List Lf} (h : z0b l = true) : z0b (us.foldl z3c l) = true := by rw [zdF h]; exact z9O h
theorem z9T (l : List Lf) (us : List Ch) (h : z0b l = true) (hu : (us.length : Int) ≤ 1000000) (hf : ∀ k, z52 (chAt us k)) : CT Tryz.prog 201 [] [.sl 2 (lvE l), .sl 3 (chE us)] (.ref 1) [.row 2 (lvE (us.foldl z3c l))] := by
 obtain ⟨hl, hfl⟩ := z4j h
 have hlen := z0R us
 have hll := z0B l
 refine z01 z0v 1 rfl Tryz.func201 rfl rfl rfl ?_
 repeat ((try conv => whnf); first | (refine And.intro (by simp [z0B]; omega) ?_) | (refine stpQ ?_))
 refine z0K Nat (fun k => ⟨[(1, .sl 3 (chE us)), (5, .ref 1), (6, .int .i64 (k : Int))], [(1, some (.row 2 (lvE ((us.take k).foldl z3c l))))], 2⟩) (fun k => k ≤ us.length) (fun k => us.length - k) 0 (by omega) ?_ ?_
 ·(refine z02 (by rfl) ?_ ?_) <;> (repeat' (first | (exact eqA) | (refine shE ?_) | (refine And.intro ?_ ?_))) <;> first | rfl | decide
 ·intro k hk
  have hok : z0b ((us.take k).foldl z3c l) = true := zf9 h
  by_cases hlt : k < us.length
  ·have hnx := zdL z3c l hlt
   have cA := z6y ((us.take k).foldl z3c l) (chAt us k) hok (hf k)
   repeat ((try conv => whnf); first | (refine i_at (z3A hlt) ?_) | (refine z3N ([1]) ([]) (cA) (by ((repeat' (first | (exact trivial) | (exact rfl) | (decide) | (refine And.intro ?_ ?_))); first | done | fail)) (by ((repeat' (first | (exact trivial) | (exact rfl) | (decide) | (refine And.intro ?_ ?_))); first | done | fail)) (by decide) (by rfl) (by first | exact .inl rfl | (refine .inr ⟨?_, ?_⟩ <;> simp [own2, own1, own0, ownE])) ?_) | (refine stpQ ?_))
   refine ⟨k + 1, by omega, by omega, ?_⟩
   (refine z02 (by rfl) ?_ ?_) <;> (repeat' (first | (exact eqA) | (refine shE ?_) | (refine And.intro ?_ ?_)))
   rw [hnx]
  ·obtain rfl : k = us.length := by omega
   rw [List.take_length] at hok ⊢
   repeat ((try conv => whnf); first | (refine stpQ ?_))
   (refine z00 (by rfl) ?_ ?_ (by rfl)) <;> (repeat' (first | (exact eqA) | (refine shE ?_) | (refine And.intro ?_ ?_)))
end Go.Proofs.YtfjbinbpgdiafaaGreatDoor
namespace Go.Proofs.YtfjbinbpgdiafaaGreatDoor
set_option linter.unusedVariables false
set_option linter.unusedSimpArgs false
set_option linter.unusedSectionVars false
open Go.RowKit Pl
theorem zdO (t : Bs) : z0E t = z3W t := by
 rcases hA : z1J t 0 false with ⟨a, p1, b1⟩
 rcases hN : z0T t p1 b1 with ⟨n, p2, b2⟩
 rcases hV : z0T t p2 b2 with ⟨v, p3, b3⟩
 simp only [z0E, hA, hN, hV]
 simp only [z3W, zdj, hA]
 cases b1
 ·simp only [z5Q, hN]
  cases b2
  ·simp only [z5Q, hV]
   cases b3
   ·obtain ⟨_, _, e1, l1⟩ := zdk hA
    obtain ⟨_, _, e2, l2⟩ := z5R hN
    obtain ⟨_, _, e3, l3⟩ := z5R hV
    have et : t = z0t a n v ++ t.drop p3 := by
     have : t = t.drop 0 := rfl
     conv => lhs; rw [this, e1, e2, e3]
     simp [z0t]
    have el : p3 = (z0t a n v).length := by simp [z0t]; omega
    by_cases hd : t.drop p3 = []
    ·have h1 : p3 = t.length := by rw [hd, List.append_nil] at et; rw [el, ← et]
     have h2 : z0t a n v = t := by rw [hd, List.append_nil] at et; exact et.symm
     simp [z2d, h1, h2]
    ·have h1 : p3 ≠ t.length := fun c => hd (List.drop_eq_nil_of_le (by omega))
     have h2 : z0t a n v ≠ t := fun c => h1 (by rw [el, c])
     simp [z2d, h1, h2]
   ·simp [z2d]
  ·have h3 := z3S t p2
   rw [hV] at h3
   simp only at h3
   subst h3
   simp [z2d, z5P]
 ·have h2 := z3S t p1
  rw [hN] at h2
  simp only at h2
  subst h2
  have h3 := z3S t p2
  rw [hV] at h3
  simp only at h3
  subst h3
  simp [z2d, z5P]
theorem zgT {t : Bs} {a : Nat} {n v : Bs} (h : z0E t = some (a, n, v)) : z52 ((a : Int), n, v) := by
 rw [zdO] at h
 rcases hA : numS t 0 false with ⟨a', p1, b1⟩
 rcases hN : z5P t p1 b1 with ⟨n', p2, b2⟩
 rcases hV : z5P t p2 b2 with ⟨v', p3, b3⟩
 simp only [z3W, hA, hN, hV] at h
 split at h
 ·rename_i hc
  injection h with h
  simp only [Prod.mk.injEq] at h
  obtain ⟨rfl, rfl, rfl⟩ := h
  have ho := hc.2.1
  unfold z0g at ho
  simp only [Bool.and_eq_true, Bool.or_eq_true, decide_eq_true_eq] at ho
  have h1 := z0D ho.1.2
  refine ⟨by show (n'.length : Int) ≤ _; omega, ?_⟩
  show (v'.length : Int) ≤ _
  rcases ho.2 with h2 | h2
  ·cases v' with
   | nil => simp
   | cons _ _ => cases h2
  ·have := z11 h2; omega
 ·cases h
theorem zfb {a : Nat} {n v : Bs} (h : z0g (a : Int) n v = true) : z0E (z0t (a : Int) n v) = some (a, n, v) := by
 have hb : (a : Int) ≤ 99 ∧ n.length ≤ 12 ∧ v.length ≤ 12 := by
  unfold z0g at h
  simp only [Bool.and_eq_true, Bool.or_eq_true, decide_eq_true_eq] at h
  refine ⟨h.1.1.2, z0D h.1.2, ?_⟩
  rcases h.2 with h | h
  ·cases v with
   | nil => simp
   | cons _ _ => cases h
  ·exact z11 h
 have h0 : (z0t (a : Int) n v).drop 0 = z03 a ++ (z0m n ++ z0m v) := by simp [z0t]
 have hA := z4f (by omega) h0 false
 have hd1 : (z0t (a : Int) n v).drop (0 + (z03 a).length) = z0m n ++ z0m v := by rw [← List.drop_drop, h0, List.drop_left]
 have hN := z5S (by omega) hd1 false
 have hd2 : (z0t (a : Int) n v).drop (0 + (z03 a).length + (z0m n).length) = z0m v ++ [] := by rw [← List.drop_drop, hd1, List.drop_left, List.append_nil]
 have hV := z5S (by omega) hd2 false
 simp only [z0E, hA, hN, hV, h]
 have hl : (z0t (a : Int) n v).length = (z03 a).length + (z0m n).length + (z0m v).length := by simp [z0t, Nat.add_assoc]
 simp [z2d, hl]
theorem z3B {t : Bs} {a : Nat} {n v : Bs} (h : z0E t = some (a, n, v)) : z0g (a : Int) n v = true := by
 rcases hA : z1J t 0 false with ⟨a', p1, b1⟩
 rcases hN : z0T t p1 b1 with ⟨n', p2, b2⟩
 rcases hV : z0T t p2 b2 with ⟨v', p3, b3⟩
 simp only [z0E, hA, hN, hV] at h
 split at h
 ·rename_i hc
  injection h with h
  simp only [Prod.mk.injEq] at h
  obtain ⟨rfl, rfl, rfl⟩ := h
  simp only [Bool.and_eq_true] at hc
  exact hc.2
 ·cases h
end Go.Proofs.YtfjbinbpgdiafaaGreatDoor
namespace Go.Proofs.YtfjbinbpgdiafaaGreatDoor
set_option linter.unusedVariables false
set_option linter.unusedSimpArgs false
set_option linter.unusedSectionVars false
open Pl
abbrev Fl := Bs × Bs × Int
def flAt (l : List Fl) (k : Nat) : Fl := l.getD k ([], [], 0)
theorem zdP {l : List Fl} {k : Nat} (h : k < l.length) : flAt l k = l[k] := by simp [flAt, List.getD, List.getElem?_eq_getElem h]
def z23 (l : List Fl) (i : Nat) : Bool := inB ((flAt l i).1.length : Int) 1 8 && decide (((flAt l i).2.1.length : Int) ≤ 20000) && inB (flAt l i).2.2 0 ((flAt l i).2.1.length : Int) && (i == 0 || ltB (flAt l (i - 1)).1 (flAt l i).1)
def z1t (l : List Fl) : Bool := decide (l.length ≤ 30) && (List.range l.length).all (z23 l)
theorem z3m {l : List Fl} {k : Nat} (hk : k < l.length) (h : z23 l k = false) : z1t l = false := by
 have : (List.range l.length).all (z23 l) = false := by
  rw [List.all_eq_false]
  exact ⟨k, List.mem_range.2 hk, by simp [h]⟩
 rw [z1t, this, Bool.and_false]
theorem z65 {l : List Fl} (h : 30 < l.length) : z1t l = false := by
 have : decide (l.length ≤ 30) = false := by simp; omega
 rw [z1t, this, Bool.false_and]
theorem z1S {l : List Fl} (hl : l.length ≤ 30) (h : ∀ k, k < l.length → z23 l k = true) : z1t l = true := by
 have h1 : decide (l.length ≤ 30) = true := by simpa using hl
 have h2 : (List.range l.length).all (z23 l) = true := List.all_eq_true.2 fun k hk => h k (List.mem_range.1 hk)
 rw [z1t, h1, h2]; rfl
theorem zcc {l : List Fl} : z1t l = true ↔ l.length ≤ 30 ∧ ∀ k, k < l.length → z23 l k = true := by
 constructor
 ·intro h
  rw [z1t, Bool.and_eq_true, decide_eq_true_iff, List.all_eq_true] at h
  exact ⟨h.1, fun k hk => h.2 k (List.mem_range.2 hk)⟩
 ·rintro ⟨h1, h2⟩; exact z1S h1 h2
theorem zcd {l : List Fl} {k : Nat} (h : z23 l k = true) : (flAt l k).2.1.length ≤ 20000 := by
 simp only [z23, Bool.and_eq_true, decide_eq_true_eq] at h
 have := h.1.1.2
 omega
def z1M (l : List Fl) (n : Bs) : Option Nat := l.findIdx? fun x => x.1 == n
theorem z7K {l : List Fl} {n : Bs} {k : Nat} (h : k < l.length) (hx : ∀ j, j < k → (flAt l j).1 ≠ n) (he : (flAt l k).1 = n) : z1M l n = some k := by
 rw [z1M, List.findIdx?_eq_some_iff_getElem]
 refine ⟨h, by rw [← zdP h, he]; simp, fun j hj => ?_⟩
 have := hx j hj
 rw [zdP (by omega)] at this
 simpa using this
theorem zdQ {l : List Fl} {n : Bs} (hx : ∀ j, j < l.length → (flAt l j).1 ≠ n) : z1M l n = none := by
 rw [z1M, List.findIdx?_eq_none_iff]
 intro x hm
 obtain ⟨j, hj, rfl⟩ := List.getElem_of_mem hm
 have := hx j hj
 rw [zdP hj] at this
 simpa using this
theorem zdR {l : List Fl} {n : Bs} {k : Nat} (h : z1M l n = some k) : k < l.length := by
 rw [z1M, List.findIdx?_eq_some_iff_getElem] at h
 exact h.1
def ixI : Option Nat → Int
 | some k => (k : Int)
 | none => -1
def z1H (l : List Fl) (n : Bs) : Option Bs := (z1M l n).map fun i => (flAt l i).2.1
theorem z9V {l : List Fl} {n t : Bs} (h : z1t l = true) (hg : z1H l n = some t) : t.length ≤ 20000 := by
 unfold z1H at hg
 cases hi : z1M l n with
 | none => rw [hi] at hg; cases hg
 | some k =>
   rw [hi] at hg
   injection hg with hg
   subst hg
   exact zcd ((zcc.1 h).2 k (zdR hi))
def z1j (t : Bs) : Bs := z03 t.length ++ z28 (z2h t) ++ t
def unf (f : Bs) : Nat → Nat → List Bs × Nat
 | 0, p => ([], p)
 | k + 1, p => match z0u f p with
   | none => ([], p)
   | some (n, q) => if 1 ≤ n ∧ n ≤ 9000 ∧ n + 4 ≤ f.length - q ∧ (f.drop q).take 4 = z28 (z2h ((f.drop (q + 4)).take n)) then
      (((f.drop (q + 4)).take n) :: (unf f k (q + 4 + n)).1, (unf f k (q + 4 + n)).2)
     else ([], p)
def z0Q (f : Bs) : List Bs × Nat := if 20000 < f.length then ([], 0) else unf f (f.length + 1) 0
def UfAt (R : List Bs × Nat) (f : Bs) (k : Nat) (l : List Bs) (p : Nat) : Prop := R = (l ++ (unf f k p).1, (unf f k p).2)
theorem UfAt.stop {R : List Bs × Nat} {f : Bs} {k : Nat} {l : List Bs} {p : Nat} (h : UfAt R f (k + 1) l p) (hr : z0u f p = none) : R = (l, p) := by
 rw [h, unf, hr]; simp
theorem UfAt.bad {R : List Bs × Nat} {f : Bs} {k : Nat} {l : List Bs} {p n q : Nat} (h : UfAt R f (k + 1) l p) (hr : z0u f p = some (n, q))
 (hn : ¬ (1 ≤ n ∧ n ≤ 9000 ∧ n + 4 ≤ f.length - q ∧ (f.drop q).take 4 = z28 (z2h ((f.drop (q + 4)).take n)))) : R = (l, p) := by
 rw [h, unf, hr]; simp only; rw [if_neg hn]; simp
theorem UfAt.step {R : List Bs × Nat} {f : Bs} {k : Nat} {l : List Bs} {p n q : Nat} (h : UfAt R f (k + 1) l p) (hr : z0u f p = some (n, q))
 (hn : 1 ≤ n ∧ n ≤ 9000 ∧ n + 4 ≤ f.length - q ∧ (f.drop q).take 4 = z28 (z2h ((f.drop (q + 4)).take n))) : UfAt R f k (l ++ [(f.drop (q + 4)).take n]) (q + 4 + n) := by
 unfold UfAt at h ⊢
 rw [h, unf, hr]; simp only; rw [if_pos hn]; simp
theorem z8N (f : Bs) : ∀ k p, (∀ t ∈ (unf f k p).1, 1 ≤ t.length ∧ t.length ≤ 9000) ∧ (unf f k p).1.length ≤ k
 | 0, p => ⟨fun t h => by simp [unf] at h, by simp [unf]⟩
 | k + 1, p => by
   rw [unf]
   split
   ·exact ⟨fun t h => by simp at h, by simp⟩
   ·rename_i n q hr
    split
    ·rename_i hc
     have ih := z8N f k (q + 4 + n)
     refine ⟨fun t h => ?_, by simp; exact ih.2⟩
     simp only [List.mem_cons] at h
     rcases h with rfl | h
     ·simp; omega
     ·exact ih.1 t h
    ·exact ⟨fun t h => by simp at h, by simp⟩
theorem z7L (f : Bs) : (∀ t ∈ (z0Q f).1, 1 ≤ t.length ∧ t.length ≤ 9000) ∧ (z0Q f).1.length ≤ 20001 := by
 unfold z0Q
 split
 ·exact ⟨fun t h => by simp at h, by simp⟩
 ·have := z8N f (f.length + 1) 0
  exact ⟨this.1, by have := this.2; omega⟩
theorem zdS {f : Bs} {p n q : Nat} (hr : z0u f p = some (n, q)) (hn : n + 4 ≤ f.length - q) :
 z1j ((f.drop (q + 4)).take n) = (f.drop p).take (q + 4 + n - p) ↔ (f.drop q).take 4 = z28 (z2h ((f.drop (q + 4)).take n)) := by
 obtain ⟨he, hq⟩ := z3Q hr
 have hl : ((f.drop (q + 4)).take n).length = n := by simp; omega
 have e : (f.drop p).take (q + 4 + n - p) = z03 n ++ (f.drop q).take 4 ++ (f.drop (q + 4)).take n := by
  rw [he, hq, show p + (z03 n).length + 4 + n - p = (z03 n).length + (4 + n) by omega, List.take_length_add_append, List.take_add, List.drop_drop, List.append_assoc]
 rw [e, z1j, hl, List.append_cancel_right_eq, List.append_cancel_left_eq]
 exact eq_comm
def z10 (l : List Fl) (n : Bs) : List Bs := if z1t l = true then (z0Q ((z1H l n).getD [])).1 else []
theorem z2v (l : List Fl) (n : Bs) : (∀ t ∈ z10 l n, 1 ≤ t.length ∧ t.length ≤ 9000) ∧ (z10 l n).length ≤ 20001 := by
 unfold z10
 split
 ·exact z7L _
 ·exact ⟨fun t h => by simp at h, by simp⟩
def z18 (nm : Bs) (K : Int) : Nat := if 0 ≤ K ∧ K ≤ 2 then ixB nm / 2 ^ (8 - K.toNat) else 0
structure Sv where
 ep : Nat
 vs : List (List Lf)
 tk : List Nat
 al : List Ch
 re : Nat
 rt : Nat
 rk : Nat
def sv0 : Sv := ⟨0, [[]], [0], [], 0, 0, 0⟩
def z1N (s : Sv) : List Lf := (s.al.take s.rk).foldl z1L []
def z19 (s : Sv) : Sv := ⟨s.ep + 1, s.vs ++ [z1N s], s.tk ++ [s.rk], s.al, 0, 0, 0⟩
def z3f (l : List Nat) : Nat := l.getLastD 0
def idIx (l : List Ch) (id : Int) : Option Nat := l.findIdx? fun x => x.1 == id
inductive Rk where
 | no | all (u : Ch) | rdy (e y k : Nat) | com
def num1 (t : Bs) : Nat × Nat × Bool := z1J t 1 false
def num2 (t : Bs) : Nat × Nat × Bool := z1J t (num1 t).2.1 (num1 t).2.2
def num3 (t : Bs) : Nat × Nat × Bool := z1J t (num2 t).2.1 (num2 t).2.2
def rkOf (a K : Int) (s : Sv) : Bs → Rk
 | [] => .no
 | b :: r =>
   if b.toNat = 1 then match z0E r with
    | some (id, n, v) => if (z18 n K : Int) = a ∧ idIx s.al (id : Int) = none then .all ((id : Int), n, v) else .no
    | none => .no
   else if b.toNat = 2 then
    if z2d (num3 (b :: r)).2.2 (num3 (b :: r)).2.1 (r.length + 1) = true ∧ (num1 (b :: r)).1 = s.ep + 1 ∧ (num1 (b :: r)).1 ≤ 4 ∧ s.rt < (num2 (b :: r)).1 ∧ (num2 (b :: r)).1 ≤ 1000 ∧
     z3f s.tk ≤ (num3 (b :: r)).1 ∧ (num3 (b :: r)).1 ≤ s.al.length
    then .rdy (num1 (b :: r)).1 (num2 (b :: r)).1 (num3 (b :: r)).1 else .no
   else if b.toNat = 3 then
    if z2d (num1 (b :: r)).2.2 (num1 (b :: r)).2.1 (r.length + 1) = true ∧ (num1 (b :: r)).1 = s.re ∧ (num1 (b :: r)).1 ≠ 0 then .com else .no
   else if b.toNat = 4 then
    if z2d (num2 (b :: r)).2.2 (num2 (b :: r)).2.1 (r.length + 1) = true ∧ (num1 (b :: r)).1 = s.re ∧ (num2 (b :: r)).1 = s.rt ∧ (num1 (b :: r)).1 ≠ 0 then .rdy 0 0 0 else .no
   else .no
def rkDo (s : Sv) : Rk → Sv
 | .no => s
 | .all u => { s with al := s.al ++ [u] }
 | .rdy e y k => { s with re := e, rt := y, rk := k }
 | .com => z19 s
def z6z (a K : Int) (s : Sv) (t : Bs) : Sv := rkDo s (rkOf a K s t)
def svOf (a K : Int) (ts : List Bs) : Sv := ts.foldl (z6z a K) sv0
structure SvOk (n : Nat) (s : Sv) : Prop where
 ep : s.ep ≤ 4
 vl : s.vs.length = s.ep + 1
 tl : s.tk.length = s.ep + 1
 al : s.al.length ≤ n
 tb : ∀ x ∈ s.tk, x ≤ s.al.length
 ch : ∀ u ∈ s.al, z0g u.1 u.2.1 u.2.2 = true
 re : s.re = 0 ∨ s.re = s.ep + 1
 r4 : s.re ≤ 4
 rt : s.rt ≤ 1000
 rk : s.rk ≤ s.al.length
 vo : ∀ v ∈ s.vs, z0b v = true
theorem sv0_ok : SvOk 0 sv0 := ⟨by decide, rfl, rfl, Nat.le_refl _, by simp [sv0], by simp [sv0], .inl rfl, by decide, by decide, by decide, by simp [sv0, z0b]⟩
theorem z8O (s : Sv) : z0b (z1N s) = true := z9O (by simp [z0b])
theorem zfc {a K : Int} {n : Nat} {s : Sv} {t : Bs} (h : SvOk n s) : SvOk (n + 1) (z6z a K s t) := by
 have weak : SvOk (n + 1) s := { h with al := by have := h.al; omega }
 unfold z6z
 cases t with
 | nil => exact weak
 | cons b r =>
   rw [rkOf]
   split
   ·split
    ·rename_i id nm v hr
     split
     ·rename_i hc
      refine { h with al := by simp [rkDo]; exact h.al, tb := fun x hx => ?_, ch := fun u hu => ?_, rk := ?_ }
      ·have := h.tb x hx; simp [rkDo]; omega
      ·simp only [rkDo, List.mem_append, List.mem_singleton] at hu
       rcases hu with hu | rfl
       ·exact h.ch u hu
       ·exact z3B hr
      ·have := h.rk; simp [rkDo]; omega
     ·exact weak
    ·exact weak
   ·split
    ·split
     ·rename_i hc
      obtain ⟨-, h1, h2, h3, h4, h5, h6⟩ := hc
      exact { weak with re := .inr h1, r4 := h2, rt := h4, rk := h6 }
     ·exact weak
    ·split
     ·split
      ·rename_i hc
       obtain ⟨-, h1, h2⟩ := hc
       have hre : s.re = s.ep + 1 := by rcases h.re with e | e <;> omega
       have h4 := h.r4
       refine ⟨by simp [rkDo, z19]; omega, by simp [rkDo, z19, h.vl], by simp [rkDo, z19, h.tl], weak.al, fun x hx => ?_, h.ch, .inl rfl, by simp [rkDo, z19], by simp [rkDo, z19], by simp [rkDo, z19], fun v hv => ?_⟩
       ·simp only [rkDo, z19, List.mem_append, List.mem_singleton] at hx ⊢
        rcases hx with hx | rfl
        ·exact h.tb x hx
        ·exact h.rk
       ·simp only [rkDo, z19, List.mem_append, List.mem_singleton] at hv
        rcases hv with hv | rfl
        ·exact h.vo v hv
        ·exact z8O s
      ·exact weak
     ·split
      ·split
       ·exact { weak with re := .inl rfl, r4 := by simp [rkDo], rt := by simp [rkDo], rk := by simp [rkDo] }
       ·exact weak
      ·exact weak
theorem z8P (a K : Int) : ∀ (ts : List Bs) (s : Sv) (n : Nat), SvOk n s → SvOk (n + ts.length) (ts.foldl (z6z a K) s)
 | [], s, n, h => h
 | t :: ts, s, n, h => by
   have := z8P a K ts _ _ (zfc (a := a) (K := K) (t := t) h)
   rw [List.length_cons, show n + (ts.length + 1) = n + 1 + ts.length by omega]
   exact this
theorem z9W (a K : Int) (ts : List Bs) : SvOk ts.length (svOf a K ts) := by
 have := z8P a K ts sv0 0 sv0_ok
 rwa [Nat.zero_add] at this
theorem zgU (a K : Int) {ts : List Bs} {k : Nat} (h : k < ts.length) : svOf a K (ts.take (k + 1)) = z6z a K (svOf a K (ts.take k)) ts[k] := by
 unfold svOf
 rw [List.take_succ_eq_append_getElem h, List.foldl_append]; rfl
end Go.Proofs.YtfjbinbpgdiafaaGreatDoor
