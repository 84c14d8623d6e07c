/- Functions by content: changes: their tests, texts, readers, and how they are applied. Changes: both readers agree; what is read back. Plain: disks, files of framed records, and what a shard makes of a record. -/
import Derived.Test.YtbcgmjdfnjmhoaaGreatDoorFb
import Derived.Test.YtbcgmjdfnjmhoaaGreatDoorOld
import Derived.Test.YtbcgmjdfnjmhoaaGreatDoorFc
import Derived.Test.YtbcgmjdfnjmhoaaGreatDoorPlainM
namespace Go.Proofs.YtbcgmjdfnjmhoaaGreatDoor
set_option maxRecDepth 100000
set_option maxHeartbeats 1000000
set_option linter.unusedVariables false
set_option linter.unusedSimpArgs false
set_option linter.unusedSectionVars false
open Go.RowKit Pl
attribute [local irreducible] z0F z0I z0T AnsP LeP
def chL (u : Ch) : List T := [.int .i64 u.1, .str u.2.1, .str u.2.2]
def chE (us : List Ch) : List (List T) := us.map chL
def z83 (u : Ch) : Prop := (u.2.1.length : Int) ≤ 1000000000 ∧ (u.2.2.length : Int) ≤ 1000000000
def rcT : Option (Nat × Bs × Bs) → T
 | none => .tup [.agg (chL (0, [], [])), .bool false]
 | some (a, n, v) => .tup [.agg (chL ((a : Int), n, v)), .bool true]
theorem rc_rs (o : Option (Nat × Bs × Bs)) (X : Cx) : RS X (rcT o) (zem o) := by
 have key : ∀ (a : Int) (n v : Bs) (b : Bool), RS X (.tup [.agg (chL (a, n, v)), .bool b]) (.tuple #[.agg #[.int .i64 a, .string (bs n), .string (bs v)], .bool b]) := fun a n v b =>
  ⟨_, rfl, _, _, rfl, ⟨_, rfl, _, _, rfl, rfl, z14 X _ _, _, _, rfl, rfl, z2i X _, _, _, rfl, rfl, z2i X _, rfl⟩, _, _, rfl, z1F X _, rfl⟩
 cases o with
 | none => exact key 0 [] [] false
 | some x => exact key _ _ _ true
theorem z7c (t : Bs) (ht : (t.length : Int) ≤ 1000000000) : CT Tryz.prog 126 [] [.str t] (rcT (z0u t)) [] :=
 z3t ⟨_, Tryz.func126, rfl, rfl⟩ rfl (rc_rs _) fun w => by
  have h := z5f (bs t) w (by rw [z0E]; exact ht)
  rwa [z0B] at h
theorem z6j (t : Bs) (ht : (t.length : Int) ≤ 1000000000) : CT Tryz.prog 117 [] [.str t] (rcT (z0P t)) [] :=
 z3t ⟨_, Tryz.func117, rfl, rfl⟩ rfl (rc_rs _) fun w => by
  have h := z4P (bs t) w (by rw [z0E]; exact ht)
  rwa [z0B] at h
theorem z0G {k : Nat} (l : List Lf) : ownE (.row k (lvE l)) := by
 intro e he c hc
 simp only [lvE, List.mem_map] at he
 obtain ⟨x, _, rfl⟩ := he
 simp only [List.mem_cons, List.not_mem_nil, or_false] at hc
 rcases hc with rfl | rfl <;> trivial
theorem z4i {l : List Lf} (h : z04 l = true) : (l.length : Int) ≤ 24 ∧ Fit l := by
 obtain ⟨h1, h2, _⟩ := z1D h
 refine ⟨by omega, fun i => ?_⟩
 rcases Nat.lt_or_ge i l.length with hl | hl
 ·have := h2 _ (List.getElem_mem hl)
  have a := z1h this.1
  have b := z1w this.2
  rw [z73 hl]; omega
 ·simp [lfAt, List.getD, List.getElem?_eq_none hl]
theorem zbA {l : List Lf} {n v : Bs} (h : z04 l = true) (hn : (n.length : Int) ≤ 1000000000) (hv : (v.length : Int) ≤ 1000000000) : Fit (putL l n v) := fun i => by
 rcases Nat.lt_or_ge i (putL l n v).length with hl | hl
 ·rw [z73 hl]
  rcases zef.1 (List.getElem_mem hl) with e | e
  ·rw [e]; exact ⟨hn, hv⟩
  ·obtain ⟨_, h2, _⟩ := z1D h
   have a := z1h (h2 _ e.1).1
   have b := z1w (h2 _ e.1).2
   omega
 ·simp [lfAt, List.getD, List.getElem?_eq_none hl]
theorem z6k (l : List Lf) (u : Ch) (h : z04 l = true) (hf : z83 u) : CT Tryz.prog 268 [] [.sl 2 (lvE l), .agg (chL u)] (.ref 1) [.row 2 (lvE (z1r l u))] := by
 obtain ⟨hl, hfl⟩ := z4i h
 obtain ⟨id, n, v⟩ := u
 have cD := z9Z l n (by omega) hfl
 have cP := zbw l n v (by omega) hfl (by rw [zbh (z1D h).2.2]; exact zbA h hf.1 hf.2)
 refine z01 z1e 1 rfl Tryz.func268 rfl rfl rfl ?_
 cases v with
 | nil =>
   repeat ((try conv => whnf); first | (refine ccA ([]) (cD) ?_) | (refine z0t rfl ?_) | (refine stpQ ?_))
   (refine z00 (by rfl) ?_ ?_ (by rfl)) <;> (repeat' (first | (exact eqA) | (refine shE ?_) | (refine And.intro ?_ ?_))) <;> first | rfl | decide
 | cons b v =>
   have hne : ¬ (b :: v = []) := by simp
   repeat ((try conv => whnf); first | (refine ccA ([]) (cP) ?_) | (refine z0i hne ?_) | (refine stpQ ?_))
   (refine z00 (by rfl) ?_ ?_ (by rfl)) <;> (repeat' (first | (exact eqA) | (refine shE ?_) | (refine And.intro ?_ ?_))) <;> first | rfl | decide
theorem z2M (us : List Ch) : (chE us).length = us.length := by simp [chE]
def chAt (us : List Ch) (k : Nat) : Ch := us.getD k (0, [], [])
theorem za2 {us : List Ch} {k : Nat} (h : k < us.length) : chAt us k = us[k] := by simp [chAt, List.getD, List.getElem?_eq_getElem h]
theorem z5I {us : List Ch} {k : Nat} (h : k < us.length) : (chE us)[k]? = some [.int .i64 (chAt us k).1, .str (chAt us k).2.1, .str (chAt us k).2.2] := by
 rw [za2 h]; simp [chE, chL, List.getElem?_eq_getElem h]
theorem zeo (us : List Ch) (k : Nat) (h : k < us.length) : us.take (k + 1) = us.take k ++ [chAt us k] := by
 rw [List.take_add_one, List.getElem?_eq_getElem h, za2 h]; rfl
theorem zbB {us : List Ch} {k : Nat} (f : List Lf → Ch → List Lf) (l : List Lf) (h : k < us.length) : (us.take (k + 1)).foldl f l = f ((us.take k).foldl f l) (chAt us k) := by
 rw [zeo us k h, List.foldl_append]; rfl
theorem za3 (l : List Lf) (us : List Ch) (h : z04 l = true) (hu : (us.length : Int) ≤ 1000000) (hf : ∀ k, z83 (chAt us k)) : CT Tryz.prog 232 [] [.sl 2 (lvE l), .sl 3 (chE us)] (.ref 1) [.row 2 (lvE (us.foldl z1r l))] := by
 obtain ⟨hl, hfl⟩ := z4i h
 have hlen := z2M us
 refine z01 z1e 1 rfl Tryz.func232 rfl rfl rfl ?_
 repeat ((try conv => whnf); first | (refine ccA ([]) (z1E l (by omega)) ?_) | (refine stpQ ?_))
 refine z0y Nat (fun k => ⟨[(5, .ref 1), (10, .sl 3 (chE us)), (11, .int .i64 ((chE us).length : Int)), (12, .int .i64 (k : Int))], [(1, some (.row 2 (lvE ((us.take k).foldl z1r l))))], 2⟩) (fun k => k ≤ us.length) (fun k => us.length - k) 0 (by omega) ?_ ?_
 ·(refine z02 (by rfl) ?_ ?_) <;> (repeat' (first | (exact eqA) | (refine shE ?_) | (refine And.intro ?_ ?_))) <;> first | rfl | decide
 ·intro k hk
  have hok : z04 ((us.take k).foldl z1r l) = true := z82 h
  by_cases hlt : k < us.length
  ·have hnx := zbB z1r l hlt
   have cA := z6k ((us.take k).foldl z1r l) (chAt us k) hok (hf k)
   repeat ((try conv => whnf); first | (refine i_at (z5I hlt) ?_) | (refine z4J ([1]) ([]) (cA) (by ((repeat' (first | (exact trivial) | (exact rfl) | (decide) | (refine And.intro ?_ ?_))); first | done | fail)) (by ((repeat' (first | (exact trivial) | (exact rfl) | (decide) | (refine And.intro ?_ ?_))); first | done | fail)) (by decide) (by rfl) (by first | exact .inl rfl | (refine .inr ⟨?_, ?_⟩ <;> simp [own2, own1, own0, ownE])) ?_) | (refine stpQ ?_))
   refine ⟨k + 1, by omega, by omega, ?_⟩
   (refine z02 (by rfl) ?_ ?_) <;> (repeat' (first | (exact eqA) | (refine shE ?_) | (refine And.intro ?_ ?_)))
   rw [hnx]
  ·obtain rfl : k = us.length := by omega
   rw [List.take_length] at hok ⊢
   repeat ((try conv => whnf); first | (refine stpQ ?_))
   (refine z00 (by rfl) ?_ ?_ (by rfl)) <;> (repeat' (first | (exact eqA) | (refine shE ?_) | (refine And.intro ?_ ?_)))
theorem z5g (l : List Lf) (u : Ch) (h : z04 l = true) (hf : z83 u) : CT Tryz.prog 265 [] [.sl 2 (lvE l), .agg (chL u)] (.ref 1) [.row 2 (lvE (z2z l u))] := by
 obtain ⟨hl, hfl⟩ := z4i h
 obtain ⟨id, n, v⟩ := u
 have cD := z81 l n (by omega) hfl
 have cP := za0 l n v (by omega) hfl (zbA h hf.1 hf.2)
 refine z01 z1e 1 rfl Tryz.func265 rfl rfl rfl ?_
 cases v with
 | nil =>
   repeat ((try conv => whnf); first | (refine ccA ([]) (cD) ?_) | (refine z0t rfl ?_) | (refine stpQ ?_))
   (refine z00 (by rfl) ?_ ?_ (by rfl)) <;> (repeat' (first | (exact eqA) | (refine shE ?_) | (refine And.intro ?_ ?_))) <;> first | rfl | decide
 | cons b v =>
   have hne : ¬ (b :: v = []) := by simp
   repeat ((try conv => whnf); first | (refine ccA ([]) (cP) ?_) | (refine z0i hne ?_) | (refine stpQ ?_))
   (refine z00 (by rfl) ?_ ?_ (by rfl)) <;> (repeat' (first | (exact eqA) | (refine shE ?_) | (refine And.intro ?_ ?_))) <;> first | rfl | decide
theorem zcT {us : List Ch} {l : List Lf} (h : z04 l = true) : z04 (us.foldl z2z l) = true := by rw [zbz h]; exact z82 h
theorem z84 (l : List Lf) (us : List Ch) (h : z04 l = true) (hu : (us.length : Int) ≤ 1000000) (hf : ∀ k, z83 (chAt us k)) : CT Tryz.prog 227 [] [.sl 2 (lvE l), .sl 3 (chE us)] (.ref 1) [.row 2 (lvE (us.foldl z2z l))] := by
 obtain ⟨hl, hfl⟩ := z4i h
 have hlen := z2M us
 have hll := z0Y l
 refine z01 z1e 1 rfl Tryz.func227 rfl rfl rfl ?_
 repeat ((try conv => whnf); first | (refine And.intro (by simp [z0Y]; omega) ?_) | (refine stpQ ?_))
 refine z0y Nat (fun k => ⟨[(1, .sl 3 (chE us)), (5, .ref 1), (6, .int .i64 (k : Int))], [(1, some (.row 2 (lvE ((us.take k).foldl z2z l))))], 2⟩) (fun k => k ≤ us.length) (fun k => us.length - k) 0 (by omega) ?_ ?_
 ·(refine z02 (by rfl) ?_ ?_) <;> (repeat' (first | (exact eqA) | (refine shE ?_) | (refine And.intro ?_ ?_))) <;> first | rfl | decide
 ·intro k hk
  have hok : z04 ((us.take k).foldl z2z l) = true := zcT h
  by_cases hlt : k < us.length
  ·have hnx := zbB z2z l hlt
   have cA := z5g ((us.take k).foldl z2z l) (chAt us k) hok (hf k)
   repeat ((try conv => whnf); first | (refine i_at (z5I hlt) ?_) | (refine z4J ([1]) ([]) (cA) (by ((repeat' (first | (exact trivial) | (exact rfl) | (decide) | (refine And.intro ?_ ?_))); first | done | fail)) (by ((repeat' (first | (exact trivial) | (exact rfl) | (decide) | (refine And.intro ?_ ?_))); first | done | fail)) (by decide) (by rfl) (by first | exact .inl rfl | (refine .inr ⟨?_, ?_⟩ <;> simp [own2, own1, own0, ownE])) ?_) | (refine stpQ ?_))
   refine ⟨k + 1, by omega, by omega, ?_⟩
   (refine z02 (by rfl) ?_ ?_) <;> (repeat' (first | (exact eqA) | (refine shE ?_) | (refine And.intro ?_ ?_)))
   rw [hnx]
  ·obtain rfl : k = us.length := by omega
   rw [List.take_length] at hok ⊢
   repeat ((try conv => whnf); first | (refine stpQ ?_))
   (refine z00 (by rfl) ?_ ?_ (by rfl)) <;> (repeat' (first | (exact eqA) | (refine shE ?_) | (refine And.intro ?_ ?_)))
end Go.Proofs.YtbcgmjdfnjmhoaaGreatDoor
namespace Go.Proofs.YtbcgmjdfnjmhoaaGreatDoor
set_option linter.unusedVariables false
set_option linter.unusedSimpArgs false
set_option linter.unusedSectionVars false
open Go.RowKit Pl
theorem z7g (t : Bs) : z0u t = z0P t := by
 rcases hA : z0R t 0 false with ⟨a, p1, b1⟩
 rcases hN : z0C t p1 b1 with ⟨n, p2, b2⟩
 rcases hV : z0C t p2 b2 with ⟨v, p3, b3⟩
 simp only [z0u, hA, hN, hV]
 simp only [z0P, zba, hA]
 cases b1
 ·simp only [z4L, hN]
  cases b2
  ·simp only [z4L, hV]
   cases b3
   ·obtain ⟨_, _, e1, l1⟩ := zbb hA
    obtain ⟨_, _, e2, l2⟩ := z4M hN
    obtain ⟨_, _, e3, l3⟩ := z4M hV
    have et : t = z0L a n v ++ t.drop p3 := by
     have : t = t.drop 0 := rfl
     conv => lhs; rw [this, e1, e2, e3]
     simp [z0L]
    have el : p3 = (z0L a n v).length := by simp [z0L]; omega
    by_cases hd : t.drop p3 = []
    ·have h1 : p3 = t.length := by rw [hd, List.append_nil] at et; rw [el, ← et]
     have h2 : z0L a n v = t := by rw [hd, List.append_nil] at et; exact et.symm
     simp [z1d, h1, h2]
    ·have h1 : p3 ≠ t.length := fun c => hd (List.drop_eq_nil_of_le (by omega))
     have h2 : z0L a n v ≠ t := fun c => h1 (by rw [el, c])
     simp [z1d, h1, h2]
   ·simp [z1d]
  ·have h3 := z33 t p2
   rw [hV] at h3
   simp only at h3
   subst h3
   simp [z1d, z19]
 ·have h2 := z33 t p1
  rw [hN] at h2
  simp only at h2
  subst h2
  have h3 := z33 t p2
  rw [hV] at h3
  simp only at h3
  subst h3
  simp [z1d, z19]
theorem zbD {t : Bs} {a : Nat} {n v : Bs} (h : z0u t = some (a, n, v)) : z83 ((a : Int), n, v) := by
 rw [z7g] at h
 rcases hA : numS t 0 false with ⟨a', p1, b1⟩
 rcases hN : z19 t p1 b1 with ⟨n', p2, b2⟩
 rcases hV : z19 t p2 b2 with ⟨v', p3, b3⟩
 simp only [z0P, hA, hN, hV] at h
 split at h
 ·rename_i hc
  injection h with h
  simp only [Prod.mk.injEq] at h
  obtain ⟨rfl, rfl, rfl⟩ := h
  have ho := hc.2.1
  unfold z0f at ho
  simp only [Bool.and_eq_true, Bool.or_eq_true, decide_eq_true_eq] at ho
  have h1 := z1h ho.1.2
  refine ⟨by show (n'.length : Int) ≤ _; omega, ?_⟩
  show (v'.length : Int) ≤ _
  rcases ho.2 with h2 | h2
  ·cases v' with
   | nil => simp
   | cons _ _ => cases h2
  ·have := z1w h2; omega
 ·cases h
theorem z20 {t : Bs} {a : Nat} {n v : Bs} (h : z0u t = some (a, n, v)) : z0f (a : Int) n v = true := by
 rcases hA : z0R t 0 false with ⟨a', p1, b1⟩
 rcases hN : z0C t p1 b1 with ⟨n', p2, b2⟩
 rcases hV : z0C t p2 b2 with ⟨v', p3, b3⟩
 simp only [z0u, hA, hN, hV] at h
 split at h
 ·rename_i hc
  injection h with h
  simp only [Prod.mk.injEq] at h
  obtain ⟨rfl, rfl, rfl⟩ := h
  simp only [Bool.and_eq_true] at hc
  exact hc.2
 ·cases h
end Go.Proofs.YtbcgmjdfnjmhoaaGreatDoor
namespace Go.Proofs.YtbcgmjdfnjmhoaaGreatDoor
set_option linter.unusedVariables false
set_option linter.unusedSimpArgs false
set_option linter.unusedSectionVars false
open Pl
abbrev Fl := Bs × Bs × Int
def flAt (l : List Fl) (k : Nat) : Fl := l.getD k ([], [], 0)
theorem zbE {l : List Fl} {k : Nat} (h : k < l.length) : flAt l k = l[k] := by simp [flAt, List.getD, List.getElem?_eq_getElem h]
def z1V (l : List Fl) (i : Nat) : Bool := inB ((flAt l i).1.length : Int) 1 8 && decide (((flAt l i).2.1.length : Int) ≤ 20000) && inB (flAt l i).2.2 0 ((flAt l i).2.1.length : Int) && (i == 0 || ltB (flAt l (i - 1)).1 (flAt l i).1)
def z1T (l : List Fl) : Bool := decide (l.length ≤ 30) && (List.range l.length).all (z1V l)
theorem z2H {l : List Fl} {k : Nat} (hk : k < l.length) (h : z1V l k = false) : z1T l = false := by
 have : (List.range l.length).all (z1V l) = false := by
  rw [List.all_eq_false]
  exact ⟨k, List.mem_range.2 hk, by simp [h]⟩
 rw [z1T, this, Bool.and_false]
theorem z4V {l : List Fl} (h : 30 < l.length) : z1T l = false := by
 have : decide (l.length ≤ 30) = false := by simp; omega
 rw [z1T, this, Bool.false_and]
theorem z39 {l : List Fl} (hl : l.length ≤ 30) (h : ∀ k, k < l.length → z1V l k = true) : z1T l = true := by
 have h1 : decide (l.length ≤ 30) = true := by simpa using hl
 have h2 : (List.range l.length).all (z1V l) = true := List.all_eq_true.2 fun k hk => h k (List.mem_range.1 hk)
 rw [z1T, h1, h2]; rfl
theorem za4 {l : List Fl} : z1T l = true ↔ l.length ≤ 30 ∧ ∀ k, k < l.length → z1V l k = true := by
 constructor
 ·intro h
  rw [z1T, Bool.and_eq_true, decide_eq_true_iff, List.all_eq_true] at h
  exact ⟨h.1, fun k hk => h.2 k (List.mem_range.2 hk)⟩
 ·rintro ⟨h1, h2⟩; exact z39 h1 h2
theorem za5 {l : List Fl} {k : Nat} (h : z1V l k = true) : (flAt l k).2.1.length ≤ 20000 := by
 simp only [z1V, Bool.and_eq_true, decide_eq_true_eq] at h
 have := h.1.1.2
 omega
def z2k (l : List Fl) (n : Bs) : Option Nat := l.findIdx? fun x => x.1 == n
theorem zbF {l : List Fl} {n : Bs} {k : Nat} (h : k < l.length) (hx : ∀ j, j < k → (flAt l j).1 ≠ n) (he : (flAt l k).1 = n) : z2k l n = some k := by
 rw [z2k, List.findIdx?_eq_some_iff_getElem]
 refine ⟨h, by rw [← zbE h, he]; simp, fun j hj => ?_⟩
 have := hx j hj
 rw [zbE (by omega)] at this
 simpa using this
theorem zbG {l : List Fl} {n : Bs} (hx : ∀ j, j < l.length → (flAt l j).1 ≠ n) : z2k l n = none := by
 rw [z2k, List.findIdx?_eq_none_iff]
 intro x hm
 obtain ⟨j, hj, rfl⟩ := List.getElem_of_mem hm
 have := hx j hj
 rw [zbE hj] at this
 simpa using this
theorem zer {l : List Fl} {n : Bs} {k : Nat} (h : z2k l n = some k) : k < l.length := by
 rw [z2k, List.findIdx?_eq_some_iff_getElem] at h
 exact h.1
def ixI : Option Nat → Int
 | some k => (k : Int)
 | none => -1
def z1K (l : List Fl) (n : Bs) : Option Bs := (z2k l n).map fun i => (flAt l i).2.1
theorem z85 {l : List Fl} {n t : Bs} (h : z1T l = true) (hg : z1K l n = some t) : t.length ≤ 20000 := by
 unfold z1K at hg
 cases hi : z2k l n with
 | none => rw [hi] at hg; cases hg
 | some k =>
   rw [hi] at hg
   injection hg with hg
   subst hg
   exact za5 ((za4.1 h).2 k (zer hi))
def z4W (t : Bs) : Bs := z0h t.length ++ z2e (z2l t) ++ t
def unf (f : Bs) : Nat → Nat → List Bs × Nat
 | 0, p => ([], p)
 | k + 1, p => match z0o f p with
   | none => ([], p)
   | some (n, q) => if 1 ≤ n ∧ n ≤ 9000 ∧ n + 4 ≤ f.length - q ∧ (f.drop q).take 4 = z2e (z2l ((f.drop (q + 4)).take n)) then
      (((f.drop (q + 4)).take n) :: (unf f k (q + 4 + n)).1, (unf f k (q + 4 + n)).2)
     else ([], p)
def z0D (f : Bs) : List Bs × Nat := if 20000 < f.length then ([], 0) else unf f (f.length + 1) 0
def UfAt (R : List Bs × Nat) (f : Bs) (k : Nat) (l : List Bs) (p : Nat) : Prop := R = (l ++ (unf f k p).1, (unf f k p).2)
theorem UfAt.stop {R : List Bs × Nat} {f : Bs} {k : Nat} {l : List Bs} {p : Nat} (h : UfAt R f (k + 1) l p) (hr : z0o f p = none) : R = (l, p) := by
 rw [h, unf, hr]; simp
theorem UfAt.bad {R : List Bs × Nat} {f : Bs} {k : Nat} {l : List Bs} {p n q : Nat} (h : UfAt R f (k + 1) l p) (hr : z0o f p = some (n, q))
 (hn : ¬ (1 ≤ n ∧ n ≤ 9000 ∧ n + 4 ≤ f.length - q ∧ (f.drop q).take 4 = z2e (z2l ((f.drop (q + 4)).take n)))) : R = (l, p) := by
 rw [h, unf, hr]; simp only; rw [if_neg hn]; simp
theorem UfAt.step {R : List Bs × Nat} {f : Bs} {k : Nat} {l : List Bs} {p n q : Nat} (h : UfAt R f (k + 1) l p) (hr : z0o f p = some (n, q))
 (hn : 1 ≤ n ∧ n ≤ 9000 ∧ n + 4 ≤ f.length - q ∧ (f.drop q).take 4 = z2e (z2l ((f.drop (q + 4)).take n))) : UfAt R f k (l ++ [(f.drop (q + 4)).take n]) (q + 4 + n) := by
 unfold UfAt at h ⊢
 rw [h, unf, hr]; simp only; rw [if_pos hn]; simp
theorem z7h (f : Bs) : ∀ k p, (∀ t ∈ (unf f k p).1, 1 ≤ t.length ∧ t.length ≤ 9000) ∧ (unf f k p).1.length ≤ k
 | 0, p => ⟨fun t h => by simp [unf] at h, by simp [unf]⟩
 | k + 1, p => by
   rw [unf]
   split
   ·exact ⟨fun t h => by simp at h, by simp⟩
   ·rename_i n q hr
    split
    ·rename_i hc
     have ih := z7h f k (q + 4 + n)
     refine ⟨fun t h => ?_, by simp; exact ih.2⟩
     simp only [List.mem_cons] at h
     rcases h with rfl | h
     ·simp; omega
     ·exact ih.1 t h
    ·exact ⟨fun t h => by simp at h, by simp⟩
theorem z6n (f : Bs) : (∀ t ∈ (z0D f).1, 1 ≤ t.length ∧ t.length ≤ 9000) ∧ (z0D f).1.length ≤ 20001 := by
 unfold z0D
 split
 ·exact ⟨fun t h => by simp at h, by simp⟩
 ·have := z7h f (f.length + 1) 0
  exact ⟨this.1, by have := this.2; omega⟩
theorem zbH {f : Bs} {p n q : Nat} (hr : z0o f p = some (n, q)) (hn : n + 4 ≤ f.length - q) :
 z4W ((f.drop (q + 4)).take n) = (f.drop p).take (q + 4 + n - p) ↔ (f.drop q).take 4 = z2e (z2l ((f.drop (q + 4)).take n)) := by
 obtain ⟨he, hq⟩ := z32 hr
 have hl : ((f.drop (q + 4)).take n).length = n := by simp; omega
 have e : (f.drop p).take (q + 4 + n - p) = z0h n ++ (f.drop q).take 4 ++ (f.drop (q + 4)).take n := by
  rw [he, hq, show p + (z0h n).length + 4 + n - p = (z0h n).length + (4 + n) by omega, List.take_length_add_append, List.take_add, List.drop_drop, List.append_assoc]
 rw [e, z4W, hl, List.append_cancel_right_eq, List.append_cancel_left_eq]
 exact eq_comm
def z0p (l : List Fl) (n : Bs) : List Bs := if z1T l = true then (z0D ((z1K l n).getD [])).1 else []
theorem z1z (l : List Fl) (n : Bs) : (∀ t ∈ z0p l n, 1 ≤ t.length ∧ t.length ≤ 9000) ∧ (z0p l n).length ≤ 20001 := by
 unfold z0p
 split
 ·exact z6n _
 ·exact ⟨fun t h => by simp at h, by simp⟩
def z1o (nm : Bs) (K : Int) : Nat := if 0 ≤ K ∧ K ≤ 2 then ixB nm / 2 ^ (8 - K.toNat) else 0
structure Sv where
 ep : Nat
 vs : List (List Lf)
 tk : List Nat
 al : List Ch
 re : Nat
 rt : Nat
 rk : Nat
def sv0 : Sv := ⟨0, [[]], [0], [], 0, 0, 0⟩
def z29 (s : Sv) : List Lf := (s.al.take s.rk).foldl z1r []
def z10 (s : Sv) : Sv := ⟨s.ep + 1, s.vs ++ [z29 s], s.tk ++ [s.rk], s.al, 0, 0, 0⟩
def z2m (l : List Nat) : Nat := l.getLastD 0
def idIx (l : List Ch) (id : Int) : Option Nat := l.findIdx? fun x => x.1 == id
inductive Rk where
 | no | all (u : Ch) | rdy (e y k : Nat) | com
def num1 (t : Bs) : Nat × Nat × Bool := z0R t 1 false
def num2 (t : Bs) : Nat × Nat × Bool := z0R t (num1 t).2.1 (num1 t).2.2
def num3 (t : Bs) : Nat × Nat × Bool := z0R t (num2 t).2.1 (num2 t).2.2
def rkOf (a K : Int) (s : Sv) : Bs → Rk
 | [] => .no
 | b :: r =>
   if b.toNat = 1 then match z0u r with
    | some (id, n, v) => if (z1o n K : Int) = a ∧ idIx s.al (id : Int) = none then .all ((id : Int), n, v) else .no
    | none => .no
   else if b.toNat = 2 then
    if z1d (num3 (b :: r)).2.2 (num3 (b :: r)).2.1 (r.length + 1) = true ∧ (num1 (b :: r)).1 = s.ep + 1 ∧ (num1 (b :: r)).1 ≤ 4 ∧ s.rt < (num2 (b :: r)).1 ∧ (num2 (b :: r)).1 ≤ 1000 ∧
     z2m s.tk ≤ (num3 (b :: r)).1 ∧ (num3 (b :: r)).1 ≤ s.al.length
    then .rdy (num1 (b :: r)).1 (num2 (b :: r)).1 (num3 (b :: r)).1 else .no
   else if b.toNat = 3 then
    if z1d (num1 (b :: r)).2.2 (num1 (b :: r)).2.1 (r.length + 1) = true ∧ (num1 (b :: r)).1 = s.re ∧ (num1 (b :: r)).1 ≠ 0 then .com else .no
   else if b.toNat = 4 then
    if z1d (num2 (b :: r)).2.2 (num2 (b :: r)).2.1 (r.length + 1) = true ∧ (num1 (b :: r)).1 = s.re ∧ (num2 (b :: r)).1 = s.rt ∧ (num1 (b :: r)).1 ≠ 0 then .rdy 0 0 0 else .no
   else .no
def rkDo (s : Sv) : Rk → Sv
 | .no => s
 | .all u => { s with al := s.al ++ [u] }
 | .rdy e y k => { s with re := e, rt := y, rk := k }
 | .com => z10 s
def z86 (a K : Int) (s : Sv) (t : Bs) : Sv := rkDo s (rkOf a K s t)
def svOf (a K : Int) (ts : List Bs) : Sv := ts.foldl (z86 a K) sv0
structure SvOk (n : Nat) (s : Sv) : Prop where
 ep : s.ep ≤ 4
 vl : s.vs.length = s.ep + 1
 tl : s.tk.length = s.ep + 1
 al : s.al.length ≤ n
 tb : ∀ x ∈ s.tk, x ≤ s.al.length
 ch : ∀ u ∈ s.al, z0f u.1 u.2.1 u.2.2 = true
 re : s.re = 0 ∨ s.re = s.ep + 1
 r4 : s.re ≤ 4
 rt : s.rt ≤ 1000
 rk : s.rk ≤ s.al.length
 vo : ∀ v ∈ s.vs, z04 v = true
theorem sv0_ok : SvOk 0 sv0 := ⟨by decide, rfl, rfl, Nat.le_refl _, by simp [sv0], by simp [sv0], .inl rfl, by decide, by decide, by decide, by simp [sv0, z04]⟩
theorem zbI (s : Sv) : z04 (z29 s) = true := z82 (by simp [z04])
theorem zcV {a K : Int} {n : Nat} {s : Sv} {t : Bs} (h : SvOk n s) : SvOk (n + 1) (z86 a K s t) := by
 have weak : SvOk (n + 1) s := { h with al := by have := h.al; omega }
 unfold z86
 cases t with
 | nil => exact weak
 | cons b r =>
   rw [rkOf]
   split
   ·split
    ·rename_i id nm v hr
     split
     ·rename_i hc
      refine { h with al := by simp [rkDo]; exact h.al, tb := fun x hx => ?_, ch := fun u hu => ?_, rk := ?_ }
      ·have := h.tb x hx; simp [rkDo]; omega
      ·simp only [rkDo, List.mem_append, List.mem_singleton] at hu
       rcases hu with hu | rfl
       ·exact h.ch u hu
       ·exact z20 hr
      ·have := h.rk; simp [rkDo]; omega
     ·exact weak
    ·exact weak
   ·split
    ·split
     ·rename_i hc
      obtain ⟨-, h1, h2, h3, h4, h5, h6⟩ := hc
      exact { weak with re := .inr h1, r4 := h2, rt := h4, rk := h6 }
     ·exact weak
    ·split
     ·split
      ·rename_i hc
       obtain ⟨-, h1, h2⟩ := hc
       have hre : s.re = s.ep + 1 := by rcases h.re with e | e <;> omega
       have h4 := h.r4
       refine ⟨by simp [rkDo, z10]; omega, by simp [rkDo, z10, h.vl], by simp [rkDo, z10, h.tl], weak.al, fun x hx => ?_, h.ch, .inl rfl, by simp [rkDo, z10], by simp [rkDo, z10], by simp [rkDo, z10], fun v hv => ?_⟩
       ·simp only [rkDo, z10, List.mem_append, List.mem_singleton] at hx ⊢
        rcases hx with hx | rfl
        ·exact h.tb x hx
        ·exact h.rk
       ·simp only [rkDo, z10, List.mem_append, List.mem_singleton] at hv
        rcases hv with hv | rfl
        ·exact h.vo v hv
        ·exact zbI s
      ·exact weak
     ·split
      ·split
       ·exact { weak with re := .inl rfl, r4 := by simp [rkDo], rt := by simp [rkDo], rk := by simp [rkDo] }
       ·exact weak
      ·exact weak
theorem z7i (a K : Int) : ∀ (ts : List Bs) (s : Sv) (n : Nat), SvOk n s → SvOk (n + ts.length) (ts.foldl (z86 a K) s)
 | [], s, n, h => h
 | t :: ts, s, n, h => by
   have := z7i a K ts _ _ (zcV (a := a) (K := K) (t := t) h)
   rw [List.length_cons, show n + (ts.length + 1) = n + 1 + ts.length by omega]
   exact this
theorem z87 (a K : Int) (ts : List Bs) : SvOk ts.length (svOf a K ts) := by
 have := z7i a K ts sv0 0 sv0_ok
 rwa [Nat.zero_add] at this
theorem zbJ (a K : Int) {ts : List Bs} {k : Nat} (h : k < ts.length) : svOf a K (ts.take (k + 1)) = z86 a K (svOf a K (ts.take k)) ts[k] := by
 unfold svOf
 rw [List.take_succ_eq_append_getElem h, List.foldl_append]; rfl
end Go.Proofs.YtbcgmjdfnjmhoaaGreatDoor
