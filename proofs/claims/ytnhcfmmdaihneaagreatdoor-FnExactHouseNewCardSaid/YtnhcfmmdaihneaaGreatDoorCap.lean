/- Functions by content: changes: their tests, texts, readers, and how they are applied. Changes: both readers agree; what is read back. Plain: disks, files of framed records, and what a shard makes of a record. -/
import Derived.Test.YtnhcfmmdaihneaaGreatDoorFb
import Derived.Test.YtnhcfmmdaihneaaGreatDoorOld
import Derived.Test.YtnhcfmmdaihneaaGreatDoorFc
import Derived.Test.YtnhcfmmdaihneaaGreatDoorPlainM
namespace Go.Proofs.YtnhcfmmdaihneaaGreatDoor
set_option maxRecDepth 100000
set_option maxHeartbeats 1000000
set_option linter.unusedVariables false
set_option linter.unusedSimpArgs false
set_option linter.unusedSectionVars false
open Go.RowKit Pl
attribute [local irreducible] z0w z0x z0A AnsP LeP
def chL (u : Ch) : List T := [.int .i64 u.1, .str u.2.1, .str u.2.2]
def chE (us : List Ch) : List (List T) := us.map chL
def zbU (u : Ch) : Prop := (u.2.1.length : Int) ≤ 1000000000 ∧ (u.2.2.length : Int) ≤ 1000000000
def rcT : Option (Nat × Bs × Bs) → T
 | none => .tup [.agg (chL (0, [], [])), .bool false]
 | some (a, n, v) => .tup [.agg (chL ((a : Int), n, v)), .bool true]
theorem rc_rs (o : Option (Nat × Bs × Bs)) (X : Cx) : RS X (rcT o) (zkG o) := by
 have key : ∀ (a : Int) (n v : Bs) (b : Bool), RS X (.tup [.agg (chL (a, n, v)), .bool b]) (.tuple #[.agg #[.int .i64 a, .string (bs n), .string (bs v)], .bool b]) := fun a n v b =>
  ⟨_, rfl, _, _, rfl, ⟨_, rfl, _, _, rfl, rfl, z1v X _ _, _, _, rfl, rfl, z2W X _, _, _, rfl, rfl, z2W X _, rfl⟩, _, _, rfl, z1S X _, rfl⟩
 cases o with
 | none => exact key 0 [] [] false
 | some x => exact key _ _ _ true
theorem zar (t : Bs) (ht : (t.length : Int) ≤ 1000000000) : CT Tryz.prog 206 [] [.str t] (rcT (z0M t)) [] :=
 z3U ⟨_, Tryz.func206, rfl, rfl⟩ rfl (rc_rs _) fun w => by
  have h := z7T (bs t) w (by rw [z0R]; exact ht)
  rwa [z0V] at h
theorem z99 (t : Bs) (ht : (t.length : Int) ≤ 1000000000) : CT Tryz.prog 201 [] [.str t] (rcT (z1d t)) [] :=
 z3U ⟨_, Tryz.func201, rfl, rfl⟩ rfl (rc_rs _) fun w => by
  have h := z7c (bs t) w (by rw [z0R]; exact ht)
  rwa [z0V] at h
theorem z0h {k : Nat} (l : List Lf) : ownE (.row k (lvE l)) := by
 intro e he c hc
 simp only [lvE, List.mem_map] at he
 obtain ⟨x, _, rfl⟩ := he
 simp only [List.mem_cons, List.not_mem_nil, or_false] at hc
 rcases hc with rfl | rfl <;> trivial
theorem z6s {l : List Lf} (h : z0k l = true) : (l.length : Int) ≤ 24 ∧ Fit l := by
 obtain ⟨h1, h2, _⟩ := z3S h
 refine ⟨by omega, fun i => ?_⟩
 rcases Nat.lt_or_ge i l.length with hl | hl
 ·have := h2 _ (List.getElem_mem hl)
  have a := z2C this.1
  have b := z3r this.2
  rw [zag hl]; omega
 ·simp [lfAt, List.getD, List.getElem?_eq_none hl]
theorem zgt {l : List Lf} {n v : Bs} (h : z0k l = true) (hn : (n.length : Int) ≤ 1000000000) (hv : (v.length : Int) ≤ 1000000000) : Fit (putL l n v) := fun i => by
 rcases Nat.lt_or_ge i (putL l n v).length with hl | hl
 ·rw [zag hl]
  rcases zkB.1 (List.getElem_mem hl) with e | e
  ·rw [e]; exact ⟨hn, hv⟩
  ·obtain ⟨_, h2, _⟩ := z3S h
   have a := z2C (h2 _ e.1).1
   have b := z3r (h2 _ e.1).2
   omega
 ·simp [lfAt, List.getD, List.getElem?_eq_none hl]
theorem z9a (l : List Lf) (u : Ch) (h : z0k l = true) (hf : zbU u) : CT Tryz.prog 296 [] [.sl 2 (lvE l), .agg (chL u)] (.ref 1) [.row 2 (lvE (z22 l u))] := by
 obtain ⟨hl, hfl⟩ := z6s h
 obtain ⟨id, n, v⟩ := u
 have cD := zeA l n (by omega) hfl
 have cP := zgp l n v (by omega) hfl (by rw [zgb (z3S h).2.2]; exact zgt h hf.1 hf.2)
 refine z01 z0L 1 rfl Tryz.func296 rfl rfl rfl ?_
 cases v with
 | nil =>
   repeat ((try conv => whnf); first | (refine ccA ([]) (cD) ?_) | (refine z0o rfl ?_) | (refine stpQ ?_))
   (refine z00 (by rfl) ?_ ?_ (by rfl)) <;> (repeat' (first | (exact eqA) | (refine shE ?_) | (refine And.intro ?_ ?_))) <;> first | rfl | decide
 | cons b v =>
   have hne : ¬ (b :: v = []) := by simp
   repeat ((try conv => whnf); first | (refine ccA ([]) (cP) ?_) | (refine z0j hne ?_) | (refine stpQ ?_))
   (refine z00 (by rfl) ?_ ?_ (by rfl)) <;> (repeat' (first | (exact eqA) | (refine shE ?_) | (refine And.intro ?_ ?_))) <;> first | rfl | decide
theorem z65 (us : List Ch) : (chE us).length = us.length := by simp [chE]
def chAt (us : List Ch) (k : Nat) : Ch := us.getD k (0, [], [])
theorem zeD {us : List Ch} {k : Nat} (h : k < us.length) : chAt us k = us[k] := by simp [chAt, List.getD, List.getElem?_eq_getElem h]
theorem z8n {us : List Ch} {k : Nat} (h : k < us.length) : (chE us)[k]? = some [.int .i64 (chAt us k).1, .str (chAt us k).2.1, .str (chAt us k).2.2] := by
 rw [zeD h]; simp [chE, chL, List.getElem?_eq_getElem h]
theorem zkI (us : List Ch) (k : Nat) (h : k < us.length) : us.take (k + 1) = us.take k ++ [chAt us k] := by
 rw [List.take_add_one, List.getElem?_eq_getElem h, zeD h]; rfl
theorem zgu {us : List Ch} {k : Nat} (f : List Lf → Ch → List Lf) (l : List Lf) (h : k < us.length) : (us.take (k + 1)).foldl f l = f ((us.take k).foldl f l) (chAt us k) := by
 rw [zkI us k h, List.foldl_append]; rfl
theorem zeE (l : List Lf) (us : List Ch) (h : z0k l = true) (hu : (us.length : Int) ≤ 1000000) (hf : ∀ k, zbU (chAt us k)) : CT Tryz.prog 278 [] [.sl 2 (lvE l), .sl 3 (chE us)] (.ref 1) [.row 2 (lvE (us.foldl z22 l))] := by
 obtain ⟨hl, hfl⟩ := z6s h
 have hlen := z65 us
 refine z01 z0L 1 rfl Tryz.func278 rfl rfl rfl ?_
 repeat ((try conv => whnf); first | (refine ccA ([]) (z2m l (by omega)) ?_) | (refine stpQ ?_))
 refine z0H Nat (fun k => ⟨[(5, .ref 1), (10, .sl 3 (chE us)), (11, .int .i64 ((chE us).length : Int)), (12, .int .i64 (k : Int))], [(1, some (.row 2 (lvE ((us.take k).foldl z22 l))))], 2⟩) (fun k => k ≤ us.length) (fun k => us.length - k) 0 (by omega) ?_ ?_
 ·(refine z02 (by rfl) ?_ ?_) <;> (repeat' (first | (exact eqA) | (refine shE ?_) | (refine And.intro ?_ ?_))) <;> first | rfl | decide
 ·intro k hk
  have hok : z0k ((us.take k).foldl z22 l) = true := zbT h
  by_cases hlt : k < us.length
  ·have hnx := zgu z22 l hlt
   have cA := z9a ((us.take k).foldl z22 l) (chAt us k) hok (hf k)
   repeat ((try conv => whnf); first | (refine i_at (z8n hlt) ?_) | (refine z71 ([1]) ([]) (cA) (by ((repeat' (first | (exact trivial) | (exact rfl) | (decide) | (refine And.intro ?_ ?_))); first | done | fail)) (by ((repeat' (first | (exact trivial) | (exact rfl) | (decide) | (refine And.intro ?_ ?_))); first | done | fail)) (by decide) (by rfl) (by first | exact .inl rfl | (refine .inr ⟨?_, ?_⟩ <;> simp [own2, own1, own0, ownE])) ?_) | (refine stpQ ?_))
   refine ⟨k + 1, by omega, by omega, ?_⟩
   (refine z02 (by rfl) ?_ ?_) <;> (repeat' (first | (exact eqA) | (refine shE ?_) | (refine And.intro ?_ ?_)))
   rw [hnx]
  ·obtain rfl : k = us.length := by omega
   rw [List.take_length] at hok ⊢
   repeat ((try conv => whnf); first | (refine stpQ ?_))
   (refine z00 (by rfl) ?_ ?_ (by rfl)) <;> (repeat' (first | (exact eqA) | (refine shE ?_) | (refine And.intro ?_ ?_)))
theorem z7U (l : List Lf) (u : Ch) (h : z0k l = true) (hf : zbU u) : CT Tryz.prog 294 [] [.sl 2 (lvE l), .agg (chL u)] (.ref 1) [.row 2 (lvE (z3V l u))] := by
 obtain ⟨hl, hfl⟩ := z6s h
 obtain ⟨id, n, v⟩ := u
 have cD := zbS l n (by omega) hfl
 have cP := zeB l n v (by omega) hfl (zgt h hf.1 hf.2)
 refine z01 z0L 1 rfl Tryz.func294 rfl rfl rfl ?_
 cases v with
 | nil =>
   repeat ((try conv => whnf); first | (refine ccA ([]) (cD) ?_) | (refine z0o rfl ?_) | (refine stpQ ?_))
   (refine z00 (by rfl) ?_ ?_ (by rfl)) <;> (repeat' (first | (exact eqA) | (refine shE ?_) | (refine And.intro ?_ ?_))) <;> first | rfl | decide
 | cons b v =>
   have hne : ¬ (b :: v = []) := by simp
   repeat ((try conv => whnf); first | (refine ccA ([]) (cP) ?_) | (refine z0j hne ?_) | (refine stpQ ?_))
   (refine z00 (by rfl) ?_ ?_ (by rfl)) <;> (repeat' (first | (exact eqA) | (refine shE ?_) | (refine And.intro ?_ ?_))) <;> first | rfl | decide
theorem ziG {us : List Ch} {l : List Lf} (h : z0k l = true) : z0k (us.foldl z3V l) = true := by rw [zgs h]; exact zbT h
theorem zbV (l : List Lf) (us : List Ch) (h : z0k l = true) (hu : (us.length : Int) ≤ 1000000) (hf : ∀ k, zbU (chAt us k)) : CT Tryz.prog 277 [] [.sl 2 (lvE l), .sl 3 (chE us)] (.ref 1) [.row 2 (lvE (us.foldl z3V l))] := by
 obtain ⟨hl, hfl⟩ := z6s h
 have hlen := z65 us
 have hll := z1n l
 refine z01 z0L 1 rfl Tryz.func277 rfl rfl rfl ?_
 repeat ((try conv => whnf); first | (refine And.intro (by simp [z1n]; omega) ?_) | (refine stpQ ?_))
 refine z0H Nat (fun k => ⟨[(1, .sl 3 (chE us)), (5, .ref 1), (6, .int .i64 (k : Int))], [(1, some (.row 2 (lvE ((us.take k).foldl z3V l))))], 2⟩) (fun k => k ≤ us.length) (fun k => us.length - k) 0 (by omega) ?_ ?_
 ·(refine z02 (by rfl) ?_ ?_) <;> (repeat' (first | (exact eqA) | (refine shE ?_) | (refine And.intro ?_ ?_))) <;> first | rfl | decide
 ·intro k hk
  have hok : z0k ((us.take k).foldl z3V l) = true := ziG h
  by_cases hlt : k < us.length
  ·have hnx := zgu z3V l hlt
   have cA := z7U ((us.take k).foldl z3V l) (chAt us k) hok (hf k)
   repeat ((try conv => whnf); first | (refine i_at (z8n hlt) ?_) | (refine z71 ([1]) ([]) (cA) (by ((repeat' (first | (exact trivial) | (exact rfl) | (decide) | (refine And.intro ?_ ?_))); first | done | fail)) (by ((repeat' (first | (exact trivial) | (exact rfl) | (decide) | (refine And.intro ?_ ?_))); first | done | fail)) (by decide) (by rfl) (by first | exact .inl rfl | (refine .inr ⟨?_, ?_⟩ <;> simp [own2, own1, own0, ownE])) ?_) | (refine stpQ ?_))
   refine ⟨k + 1, by omega, by omega, ?_⟩
   (refine z02 (by rfl) ?_ ?_) <;> (repeat' (first | (exact eqA) | (refine shE ?_) | (refine And.intro ?_ ?_)))
   rw [hnx]
  ·obtain rfl : k = us.length := by omega
   rw [List.take_length] at hok ⊢
   repeat ((try conv => whnf); first | (refine stpQ ?_))
   (refine z00 (by rfl) ?_ ?_ (by rfl)) <;> (repeat' (first | (exact eqA) | (refine shE ?_) | (refine And.intro ?_ ?_)))
end Go.Proofs.YtnhcfmmdaihneaaGreatDoor
namespace Go.Proofs.YtnhcfmmdaihneaaGreatDoor
set_option linter.unusedVariables false
set_option linter.unusedSimpArgs false
set_option linter.unusedSectionVars false
open Go.RowKit Pl
theorem zav (t : Bs) : z0M t = z1d t := by
 rcases hA : z0W t 0 false with ⟨a, p1, b1⟩
 rcases hN : z0F t p1 b1 with ⟨n, p2, b2⟩
 rcases hV : z0F t p2 b2 with ⟨v, p3, b3⟩
 simp only [z0M, hA, hN, hV]
 simp only [z1d, zg4, hA]
 cases b1
 ·simp only [z73, hN]
  cases b2
  ·simp only [z73, hV]
   cases b3
   ·obtain ⟨_, _, e1, l1⟩ := zg5 hA
    obtain ⟨_, _, e2, l2⟩ := z3o hN
    obtain ⟨_, _, e3, l3⟩ := z3o hV
    have et : t = z18 a n v ++ t.drop p3 := by
     have : t = t.drop 0 := rfl
     conv => lhs; rw [this, e1, e2, e3]
     simp [z18]
    have el : p3 = (z18 a n v).length := by simp [z18]; omega
    by_cases hd : t.drop p3 = []
    ·have h1 : p3 = t.length := by rw [hd, List.append_nil] at et; rw [el, ← et]
     have h2 : z18 a n v = t := by rw [hd, List.append_nil] at et; exact et.symm
     simp [z19, h1, h2]
    ·have h1 : p3 ≠ t.length := fun c => hd (List.drop_eq_nil_of_le (by omega))
     have h2 : z18 a n v ≠ t := fun c => h1 (by rw [el, c])
     simp [z19, h1, h2]
   ·simp [z19]
  ·have h3 := z4w t p2
   rw [hV] at h3
   simp only at h3
   subst h3
   simp [z19, z1m]
 ·have h2 := z4w t p1
  rw [hN] at h2
  simp only at h2
  subst h2
  have h3 := z4w t p2
  rw [hV] at h3
  simp only at h3
  subst h3
  simp [z19, z1m]
theorem zgw {t : Bs} {a : Nat} {n v : Bs} (h : z0M t = some (a, n, v)) : zbU ((a : Int), n, v) := by
 rw [zav] at h
 rcases hA : numS t 0 false with ⟨a', p1, b1⟩
 rcases hN : z1m t p1 b1 with ⟨n', p2, b2⟩
 rcases hV : z1m t p2 b2 with ⟨v', p3, b3⟩
 simp only [z1d, hA, hN, hV] at h
 split at h
 ·rename_i hc
  injection h with h
  simp only [Prod.mk.injEq] at h
  obtain ⟨rfl, rfl, rfl⟩ := h
  have ho := hc.2.1
  unfold z0z at ho
  simp only [Bool.and_eq_true, Bool.or_eq_true, decide_eq_true_eq] at ho
  have h1 := z2C ho.1.2
  refine ⟨by show (n'.length : Int) ≤ _; omega, ?_⟩
  show (v'.length : Int) ≤ _
  rcases ho.2 with h2 | h2
  ·cases v' with
   | nil => simp
   | cons _ _ => cases h2
  ·have := z3r h2; omega
 ·cases h
theorem z31 {t : Bs} {a : Nat} {n v : Bs} (h : z0M t = some (a, n, v)) : z0z (a : Int) n v = true := by
 rcases hA : z0W t 0 false with ⟨a', p1, b1⟩
 rcases hN : z0F t p1 b1 with ⟨n', p2, b2⟩
 rcases hV : z0F t p2 b2 with ⟨v', p3, b3⟩
 simp only [z0M, hA, hN, hV] at h
 split at h
 ·rename_i hc
  injection h with h
  simp only [Prod.mk.injEq] at h
  obtain ⟨rfl, rfl, rfl⟩ := h
  simp only [Bool.and_eq_true] at hc
  exact hc.2
 ·cases h
end Go.Proofs.YtnhcfmmdaihneaaGreatDoor
namespace Go.Proofs.YtnhcfmmdaihneaaGreatDoor
set_option linter.unusedVariables false
set_option linter.unusedSimpArgs false
set_option linter.unusedSectionVars false
open Pl
abbrev Fl := Bs × Bs × Int
def flAt (l : List Fl) (k : Nat) : Fl := l.getD k ([], [], 0)
theorem zgx {l : List Fl} {k : Nat} (h : k < l.length) : flAt l k = l[k] := by simp [flAt, List.getD, List.getElem?_eq_getElem h]
def z2S (l : List Fl) (i : Nat) : Bool := inB ((flAt l i).1.length : Int) 1 8 && decide (((flAt l i).2.1.length : Int) ≤ 20000) && inB (flAt l i).2.2 0 ((flAt l i).2.1.length : Int) && (i == 0 || ltB (flAt l (i - 1)).1 (flAt l i).1)
def z2N (l : List Fl) : Bool := decide (l.length ≤ 30) && (List.range l.length).all (z2S l)
theorem z43 {l : List Fl} {k : Nat} (hk : k < l.length) (h : z2S l k = false) : z2N l = false := by
 have : (List.range l.length).all (z2S l) = false := by
  rw [List.all_eq_false]
  exact ⟨k, List.mem_range.2 hk, by simp [h]⟩
 rw [z2N, this, Bool.and_false]
theorem z7h {l : List Fl} (h : 30 < l.length) : z2N l = false := by
 have : decide (l.length ≤ 30) = false := by simp; omega
 rw [z2N, this, Bool.false_and]
theorem z4C {l : List Fl} (hl : l.length ≤ 30) (h : ∀ k, k < l.length → z2S l k = true) : z2N l = true := by
 have h1 : decide (l.length ≤ 30) = true := by simpa using hl
 have h2 : (List.range l.length).all (z2S l) = true := List.all_eq_true.2 fun k hk => h k (List.mem_range.1 hk)
 rw [z2N, h1, h2]; rfl
theorem zeF {l : List Fl} : z2N l = true ↔ l.length ≤ 30 ∧ ∀ k, k < l.length → z2S l k = true := by
 constructor
 ·intro h
  rw [z2N, Bool.and_eq_true, decide_eq_true_iff, List.all_eq_true] at h
  exact ⟨h.1, fun k hk => h.2 k (List.mem_range.2 hk)⟩
 ·rintro ⟨h1, h2⟩; exact z4C h1 h2
theorem zeG {l : List Fl} {k : Nat} (h : z2S l k = true) : (flAt l k).2.1.length ≤ 20000 := by
 simp only [z2S, Bool.and_eq_true, decide_eq_true_eq] at h
 have := h.1.1.2
 omega
def z3C (l : List Fl) (n : Bs) : Option Nat := l.findIdx? fun x => x.1 == n
theorem zgy {l : List Fl} {n : Bs} {k : Nat} (h : k < l.length) (hx : ∀ j, j < k → (flAt l j).1 ≠ n) (he : (flAt l k).1 = n) : z3C l n = some k := by
 rw [z3C, List.findIdx?_eq_some_iff_getElem]
 refine ⟨h, by rw [← zgx h, he]; simp, fun j hj => ?_⟩
 have := hx j hj
 rw [zgx (by omega)] at this
 simpa using this
theorem zgz {l : List Fl} {n : Bs} (hx : ∀ j, j < l.length → (flAt l j).1 ≠ n) : z3C l n = none := by
 rw [z3C, List.findIdx?_eq_none_iff]
 intro x hm
 obtain ⟨j, hj, rfl⟩ := List.getElem_of_mem hm
 have := hx j hj
 rw [zgx hj] at this
 simpa using this
theorem zkO {l : List Fl} {n : Bs} {k : Nat} (h : z3C l n = some k) : k < l.length := by
 rw [z3C, List.findIdx?_eq_some_iff_getElem] at h
 exact h.1
def ixI : Option Nat → Int
 | some k => (k : Int)
 | none => -1
def z2t (l : List Fl) (n : Bs) : Option Bs := (z3C l n).map fun i => (flAt l i).2.1
theorem zbX {l : List Fl} {n t : Bs} (h : z2N l = true) (hg : z2t l n = some t) : t.length ≤ 20000 := by
 unfold z2t at hg
 cases hi : z3C l n with
 | none => rw [hi] at hg; cases hg
 | some k =>
   rw [hi] at hg
   injection hg with hg
   subst hg
   exact zeG ((zeF.1 h).2 k (zkO hi))
def z7i (t : Bs) : Bs := z0r t.length ++ z3n (z3F t) ++ t
def unf (f : Bs) : Nat → Nat → List Bs × Nat
 | 0, p => ([], p)
 | k + 1, p => match z0B f p with
   | none => ([], p)
   | some (n, q) => if 1 ≤ n ∧ n ≤ 9000 ∧ n + 4 ≤ f.length - q ∧ (f.drop q).take 4 = z3n (z3F ((f.drop (q + 4)).take n)) then
      (((f.drop (q + 4)).take n) :: (unf f k (q + 4 + n)).1, (unf f k (q + 4 + n)).2)
     else ([], p)
def z0Y (f : Bs) : List Bs × Nat := if 20000 < f.length then ([], 0) else unf f (f.length + 1) 0
def UfAt (R : List Bs × Nat) (f : Bs) (k : Nat) (l : List Bs) (p : Nat) : Prop := R = (l ++ (unf f k p).1, (unf f k p).2)
theorem UfAt.stop {R : List Bs × Nat} {f : Bs} {k : Nat} {l : List Bs} {p : Nat} (h : UfAt R f (k + 1) l p) (hr : z0B f p = none) : R = (l, p) := by
 rw [h, unf, hr]; simp
theorem UfAt.bad {R : List Bs × Nat} {f : Bs} {k : Nat} {l : List Bs} {p n q : Nat} (h : UfAt R f (k + 1) l p) (hr : z0B f p = some (n, q))
 (hn : ¬ (1 ≤ n ∧ n ≤ 9000 ∧ n + 4 ≤ f.length - q ∧ (f.drop q).take 4 = z3n (z3F ((f.drop (q + 4)).take n)))) : R = (l, p) := by
 rw [h, unf, hr]; simp only; rw [if_neg hn]; simp
theorem UfAt.step {R : List Bs × Nat} {f : Bs} {k : Nat} {l : List Bs} {p n q : Nat} (h : UfAt R f (k + 1) l p) (hr : z0B f p = some (n, q))
 (hn : 1 ≤ n ∧ n ≤ 9000 ∧ n + 4 ≤ f.length - q ∧ (f.drop q).take 4 = z3n (z3F ((f.drop (q + 4)).take n))) : UfAt R f k (l ++ [(f.drop (q + 4)).take n]) (q + 4 + n) := by
 unfold UfAt at h ⊢
 rw [h, unf, hr]; simp only; rw [if_pos hn]; simp
theorem zaw (f : Bs) : ∀ k p, (∀ t ∈ (unf f k p).1, 1 ≤ t.length ∧ t.length ≤ 9000) ∧ (unf f k p).1.length ≤ k
 | 0, p => ⟨fun t h => by simp [unf] at h, by simp [unf]⟩
 | k + 1, p => by
   rw [unf]
   split
   ·exact ⟨fun t h => by simp at h, by simp⟩
   ·rename_i n q hr
    split
    ·rename_i hc
     have ih := zaw f k (q + 4 + n)
     refine ⟨fun t h => ?_, by simp; exact ih.2⟩
     simp only [List.mem_cons] at h
     rcases h with rfl | h
     ·simp; omega
     ·exact ih.1 t h
    ·exact ⟨fun t h => by simp at h, by simp⟩
theorem z9d (f : Bs) : (∀ t ∈ (z0Y f).1, 1 ≤ t.length ∧ t.length ≤ 9000) ∧ (z0Y f).1.length ≤ 20001 := by
 unfold z0Y
 split
 ·exact ⟨fun t h => by simp at h, by simp⟩
 ·have := zaw f (f.length + 1) 0
  exact ⟨this.1, by have := this.2; omega⟩
theorem zgA {f : Bs} {p n q : Nat} (hr : z0B f p = some (n, q)) (hn : n + 4 ≤ f.length - q) :
 z7i ((f.drop (q + 4)).take n) = (f.drop p).take (q + 4 + n - p) ↔ (f.drop q).take 4 = z3n (z3F ((f.drop (q + 4)).take n)) := by
 obtain ⟨he, hq⟩ := z4v hr
 have hl : ((f.drop (q + 4)).take n).length = n := by simp; omega
 have e : (f.drop p).take (q + 4 + n - p) = z0r n ++ (f.drop q).take 4 ++ (f.drop (q + 4)).take n := by
  rw [he, hq, show p + (z0r n).length + 4 + n - p = (z0r n).length + (4 + n) by omega, List.take_length_add_append, List.take_add, List.drop_drop, List.append_assoc]
 rw [e, z7i, hl, List.append_cancel_right_eq, List.append_cancel_left_eq]
 exact eq_comm
def z0i (l : List Fl) (n : Bs) : List Bs := if z2N l = true then (z0Y ((z2t l n).getD [])).1 else []
theorem z0Z (l : List Fl) (n : Bs) : (∀ t ∈ z0i l n, 1 ≤ t.length ∧ t.length ≤ 9000) ∧ (z0i l n).length ≤ 20001 := by
 unfold z0i
 split
 ·exact z9d _
 ·exact ⟨fun t h => by simp at h, by simp⟩
def z1X (nm : Bs) (K : Int) : Nat := if 0 ≤ K ∧ K ≤ 2 then ixB nm / 2 ^ (8 - K.toNat) else 0
structure Sv where
 ep : Nat
 vs : List (List Lf)
 tk : List Nat
 al : List Ch
 re : Nat
 rt : Nat
 rk : Nat
def sv0 : Sv := ⟨0, [[]], [0], [], 0, 0, 0⟩
def z3b (s : Sv) : List Lf := (s.al.take s.rk).foldl z22 []
def z1t (s : Sv) : Sv := ⟨s.ep + 1, s.vs ++ [z3b s], s.tk ++ [s.rk], s.al, 0, 0, 0⟩
def z3G (l : List Nat) : Nat := l.getLastD 0
def idIx (l : List Ch) (id : Int) : Option Nat := l.findIdx? fun x => x.1 == id
inductive Rk where
 | no | all (u : Ch) | rdy (e y k : Nat) | com
def num1 (t : Bs) : Nat × Nat × Bool := z0W t 1 false
def num2 (t : Bs) : Nat × Nat × Bool := z0W t (num1 t).2.1 (num1 t).2.2
def num3 (t : Bs) : Nat × Nat × Bool := z0W t (num2 t).2.1 (num2 t).2.2
def rkOf (a K : Int) (s : Sv) : Bs → Rk
 | [] => .no
 | b :: r =>
   if b.toNat = 1 then match z0M r with
    | some (id, n, v) => if (z1X n K : Int) = a ∧ idIx s.al (id : Int) = none then .all ((id : Int), n, v) else .no
    | none => .no
   else if b.toNat = 2 then
    if z19 (num3 (b :: r)).2.2 (num3 (b :: r)).2.1 (r.length + 1) = true ∧ (num1 (b :: r)).1 = s.ep + 1 ∧ (num1 (b :: r)).1 ≤ 4 ∧ s.rt < (num2 (b :: r)).1 ∧ (num2 (b :: r)).1 ≤ 1000 ∧
     z3G s.tk ≤ (num3 (b :: r)).1 ∧ (num3 (b :: r)).1 ≤ s.al.length
    then .rdy (num1 (b :: r)).1 (num2 (b :: r)).1 (num3 (b :: r)).1 else .no
   else if b.toNat = 3 then
    if z19 (num1 (b :: r)).2.2 (num1 (b :: r)).2.1 (r.length + 1) = true ∧ (num1 (b :: r)).1 = s.re ∧ (num1 (b :: r)).1 ≠ 0 then .com else .no
   else if b.toNat = 4 then
    if z19 (num2 (b :: r)).2.2 (num2 (b :: r)).2.1 (r.length + 1) = true ∧ (num1 (b :: r)).1 = s.re ∧ (num2 (b :: r)).1 = s.rt ∧ (num1 (b :: r)).1 ≠ 0 then .rdy 0 0 0 else .no
   else .no
def rkDo (s : Sv) : Rk → Sv
 | .no => s
 | .all u => { s with al := s.al ++ [u] }
 | .rdy e y k => { s with re := e, rt := y, rk := k }
 | .com => z1t s
def zbY (a K : Int) (s : Sv) (t : Bs) : Sv := rkDo s (rkOf a K s t)
def svOf (a K : Int) (ts : List Bs) : Sv := ts.foldl (zbY a K) sv0
structure SvOk (n : Nat) (s : Sv) : Prop where
 ep : s.ep ≤ 4
 vl : s.vs.length = s.ep + 1
 tl : s.tk.length = s.ep + 1
 al : s.al.length ≤ n
 tb : ∀ x ∈ s.tk, x ≤ s.al.length
 ch : ∀ u ∈ s.al, z0z u.1 u.2.1 u.2.2 = true
 re : s.re = 0 ∨ s.re = s.ep + 1
 r4 : s.re ≤ 4
 rt : s.rt ≤ 1000
 rk : s.rk ≤ s.al.length
 vo : ∀ v ∈ s.vs, z0k v = true
theorem sv0_ok : SvOk 0 sv0 := ⟨by decide, rfl, rfl, Nat.le_refl _, by simp [sv0], by simp [sv0], .inl rfl, by decide, by decide, by decide, by simp [sv0, z0k]⟩
theorem zgB (s : Sv) : z0k (z3b s) = true := zbT (by simp [z0k])
theorem ziJ {a K : Int} {n : Nat} {s : Sv} {t : Bs} (h : SvOk n s) : SvOk (n + 1) (zbY a K s t) := by
 have weak : SvOk (n + 1) s := { h with al := by have := h.al; omega }
 unfold zbY
 cases t with
 | nil => exact weak
 | cons b r =>
   rw [rkOf]
   split
   ·split
    ·rename_i id nm v hr
     split
     ·rename_i hc
      refine { h with al := by simp [rkDo]; exact h.al, tb := fun x hx => ?_, ch := fun u hu => ?_, rk := ?_ }
      ·have := h.tb x hx; simp [rkDo]; omega
      ·simp only [rkDo, List.mem_append, List.mem_singleton] at hu
       rcases hu with hu | rfl
       ·exact h.ch u hu
       ·exact z31 hr
      ·have := h.rk; simp [rkDo]; omega
     ·exact weak
    ·exact weak
   ·split
    ·split
     ·rename_i hc
      obtain ⟨-, h1, h2, h3, h4, h5, h6⟩ := hc
      exact { weak with re := .inr h1, r4 := h2, rt := h4, rk := h6 }
     ·exact weak
    ·split
     ·split
      ·rename_i hc
       obtain ⟨-, h1, h2⟩ := hc
       have hre : s.re = s.ep + 1 := by rcases h.re with e | e <;> omega
       have h4 := h.r4
       refine ⟨by simp [rkDo, z1t]; omega, by simp [rkDo, z1t, h.vl], by simp [rkDo, z1t, h.tl], weak.al, fun x hx => ?_, h.ch, .inl rfl, by simp [rkDo, z1t], by simp [rkDo, z1t], by simp [rkDo, z1t], fun v hv => ?_⟩
       ·simp only [rkDo, z1t, List.mem_append, List.mem_singleton] at hx ⊢
        rcases hx with hx | rfl
        ·exact h.tb x hx
        ·exact h.rk
       ·simp only [rkDo, z1t, List.mem_append, List.mem_singleton] at hv
        rcases hv with hv | rfl
        ·exact h.vo v hv
        ·exact zgB s
      ·exact weak
     ·split
      ·split
       ·exact { weak with re := .inl rfl, r4 := by simp [rkDo], rt := by simp [rkDo], rk := by simp [rkDo] }
       ·exact weak
      ·exact weak
theorem zax (a K : Int) : ∀ (ts : List Bs) (s : Sv) (n : Nat), SvOk n s → SvOk (n + ts.length) (ts.foldl (zbY a K) s)
 | [], s, n, h => h
 | t :: ts, s, n, h => by
   have := zax a K ts _ _ (ziJ (a := a) (K := K) (t := t) h)
   rw [List.length_cons, show n + (ts.length + 1) = n + 1 + ts.length by omega]
   exact this
theorem zgC (a K : Int) (ts : List Bs) : SvOk ts.length (svOf a K ts) := by
 have := zax a K ts sv0 0 sv0_ok
 rwa [Nat.zero_add] at this
theorem zgD (a K : Int) {ts : List Bs} {k : Nat} (h : k < ts.length) : svOf a K (ts.take (k + 1)) = zbY a K (svOf a K (ts.take k)) ts[k] := by
 unfold svOf
 rw [List.take_succ_eq_append_getElem h, List.foldl_append]; rfl
end Go.Proofs.YtnhcfmmdaihneaaGreatDoor
