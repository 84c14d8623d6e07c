/- Functions by content: changes: their tests, texts, readers, and how they are applied. Changes: both readers agree; what is read back. Plain: disks, files of framed records, and what a shard makes of a record. -/
import Derived.Test.YthcfalipgnpelaaGreatDoorFb
import Derived.Test.YthcfalipgnpelaaGreatDoorOld
import Derived.Test.YthcfalipgnpelaaGreatDoorFc
import Derived.Test.YthcfalipgnpelaaGreatDoorPlainM
namespace Go.Proofs.YthcfalipgnpelaaGreatDoor
set_option maxRecDepth 100000
set_option maxHeartbeats 1000000
set_option linter.unusedVariables false
set_option linter.unusedSimpArgs false
set_option linter.unusedSectionVars false
open Go.RowKit Pl
attribute [local irreducible] z0o z0p z0z AnsP LeP
def chL (u : Ch) : List T := [.int .i64 u.1, .str u.2.1, .str u.2.2]
def chE (us : List Ch) : List (List T) := us.map chL
def zcF (u : Ch) : Prop := (u.2.1.length : Int) ≤ 1000000000 ∧ (u.2.2.length : Int) ≤ 1000000000
def rcT : Option (Nat × Bs × Bs) → T
 | none => .tup [.agg (chL (0, [], [])), .bool false]
 | some (a, n, v) => .tup [.agg (chL ((a : Int), n, v)), .bool true]
theorem rc_rs (o : Option (Nat × Bs × Bs)) (X : Cx) : RS X (rcT o) (zlI o) := by
 have key : ∀ (a : Int) (n v : Bs) (b : Bool), RS X (.tup [.agg (chL (a, n, v)), .bool b]) (.tuple #[.agg #[.int .i64 a, .string (bs n), .string (bs v)], .bool b]) := fun a n v b =>
  ⟨_, rfl, _, _, rfl, ⟨_, rfl, _, _, rfl, rfl, z1R X _ _, _, _, rfl, rfl, z3d X _, _, _, rfl, rfl, z3d X _, rfl⟩, _, _, rfl, z2c X _, rfl⟩
 cases o with
 | none => exact key 0 [] [] false
 | some x => exact key _ _ _ true
theorem zb2 (t : Bs) (ht : (t.length : Int) ≤ 1000000000) : CT Tryz.prog 301 [] [.str t] (rcT (z0I t)) [] :=
 z4g ⟨_, Tryz.func301, rfl, rfl⟩ rfl (rc_rs _) fun w => by
  have h := z8p (bs t) w (by rw [z0O]; exact ht)
  rwa [z0Q] at h
theorem z9M (t : Bs) (ht : (t.length : Int) ≤ 1000000000) : CT Tryz.prog 289 [] [.str t] (rcT (z1j t)) [] :=
 z4g ⟨_, Tryz.func289, rfl, rfl⟩ rfl (rc_rs _) fun w => by
  have h := z7u (bs t) w (by rw [z0O]; exact ht)
  rwa [z0Q] at h
theorem z0c {k : Nat} (l : List Lf) : ownE (.row k (lvE l)) := by
 intro e he c hc
 simp only [lvE, List.mem_map] at he
 obtain ⟨x, _, rfl⟩ := he
 simp only [List.mem_cons, List.not_mem_nil, or_false] at hc
 rcases hc with rfl | rfl <;> trivial
theorem z2L {l : List Lf} (h : z06 l = true) : (l.length : Int) ≤ 24 ∧ Fit l := by
 obtain ⟨h1, h2, _⟩ := z1d h
 refine ⟨by omega, fun i => ?_⟩
 rcases Nat.lt_or_ge i l.length with hl | hl
 ·have := h2 _ (List.getElem_mem hl)
  have a := z27 this.1
  have b := z2r this.2
  rw [zaS hl]; omega
 ·simp [lfAt, List.getD, List.getElem?_eq_none hl]
theorem zhg {l : List Lf} {n v : Bs} (h : z06 l = true) (hn : (n.length : Int) ≤ 1000000000) (hv : (v.length : Int) ≤ 1000000000) : Fit (putL l n v) := fun i => by
 rcases Nat.lt_or_ge i (putL l n v).length with hl | hl
 ·rw [zaS hl]
  rcases zlE.1 (List.getElem_mem hl) with e | e
  ·rw [e]; exact ⟨hn, hv⟩
  ·obtain ⟨_, h2, _⟩ := z1d h
   have a := z27 (h2 _ e.1).1
   have b := z2r (h2 _ e.1).2
   omega
 ·simp [lfAt, List.getD, List.getElem?_eq_none hl]
theorem z9N (l : List Lf) (u : Ch) (h : z06 l = true) (hf : zcF u) : CT Tryz.prog 203 [] [.sl 2 (lvE l), .agg (chL u)] (.ref 1) [.row 2 (lvE (z1s l u))] := by
 obtain ⟨hl, hfl⟩ := z2L h
 obtain ⟨id, n, v⟩ := u
 have cD := zfc l n (by omega) hfl
 have cP := zhc l n v (by omega) hfl (by rw [zh0 (z1d h).2.2]; exact zhg h hf.1 hf.2)
 refine z01 z0q 1 rfl Tryz.func203 rfl rfl rfl ?_
 cases v with
 | nil =>
   repeat ((try conv => whnf); first | (refine ccA ([]) (cD) ?_) | (refine z0k rfl ?_) | (refine stpQ ?_))
   (refine z00 (by rfl) ?_ ?_ (by rfl)) <;> (repeat' (first | (exact eqA) | (refine shE ?_) | (refine And.intro ?_ ?_))) <;> first | rfl | decide
 | cons b v =>
   have hne : ¬ (b :: v = []) := by simp
   repeat ((try conv => whnf); first | (refine ccA ([]) (cP) ?_) | (refine z0e hne ?_) | (refine stpQ ?_))
   (refine z00 (by rfl) ?_ ?_ (by rfl)) <;> (repeat' (first | (exact eqA) | (refine shE ?_) | (refine And.intro ?_ ?_))) <;> first | rfl | decide
theorem z2Z (us : List Ch) : (chE us).length = us.length := by simp [chE]
def chAt (us : List Ch) (k : Nat) : Ch := us.getD k (0, [], [])
theorem zff {us : List Ch} {k : Nat} (h : k < us.length) : chAt us k = us[k] := by simp [chAt, List.getD, List.getElem?_eq_getElem h]
theorem z4E {us : List Ch} {k : Nat} (h : k < us.length) : (chE us)[k]? = some [.int .i64 (chAt us k).1, .str (chAt us k).2.1, .str (chAt us k).2.2] := by
 rw [zff h]; simp [chE, chL, List.getElem?_eq_getElem h]
theorem z7v (us : List Ch) (k : Nat) (h : k < us.length) : us.take (k + 1) = us.take k ++ [chAt us k] := by
 rw [List.take_add_one, List.getElem?_eq_getElem h, zff h]; rfl
theorem zhh {us : List Ch} {k : Nat} (f : List Lf → Ch → List Lf) (l : List Lf) (h : k < us.length) : (us.take (k + 1)).foldl f l = f ((us.take k).foldl f l) (chAt us k) := by
 rw [z7v us k h, List.foldl_append]; rfl
theorem z8Y (l : List Lf) (us : List Ch) (h : z06 l = true) (hu : (us.length : Int) ≤ 1000000) (hf : ∀ k, zcF (chAt us k)) : CT Tryz.prog 136 [] [.sl 2 (lvE l), .sl 3 (chE us)] (.ref 1) [.row 2 (lvE (us.foldl z1s l))] := by
 obtain ⟨hl, hfl⟩ := z2L h
 have hlen := z2Z us
 refine z01 z0q 1 rfl Tryz.func136 rfl rfl rfl ?_
 repeat ((try conv => whnf); first | (refine ccA ([]) (z2z l (by omega)) ?_) | (refine stpQ ?_))
 refine z0f Nat (fun k => ⟨[(5, .ref 1), (10, .sl 3 (chE us)), (11, .int .i64 ((chE us).length : Int)), (12, .int .i64 (k : Int))], [(1, some (.row 2 (lvE ((us.take k).foldl z1s l))))], 2⟩) (fun k => k ≤ us.length) (fun k => us.length - k) 0 (by omega) ?_ ?_
 ·(refine z02 (by rfl) ?_ ?_) <;> (repeat' (first | (exact eqA) | (refine shE ?_) | (refine And.intro ?_ ?_))) <;> first | rfl | decide
 ·intro k hk
  have hok : z06 ((us.take k).foldl z1s l) = true := z9L h
  by_cases hlt : k < us.length
  ·have hnx := zhh z1s l hlt
   have cA := z9N ((us.take k).foldl z1s l) (chAt us k) hok (hf k)
   repeat ((try conv => whnf); first | (refine i_at (z4E hlt) ?_) | (refine z3K ([1]) ([]) (cA) (by ((repeat' (first | (exact trivial) | (exact rfl) | (decide) | (refine And.intro ?_ ?_))); first | done | fail)) (by ((repeat' (first | (exact trivial) | (exact rfl) | (decide) | (refine And.intro ?_ ?_))); first | done | fail)) (by decide) (by rfl) (by first | exact .inl rfl | (refine .inr ⟨?_, ?_⟩ <;> simp [own2, own1, own0, ownE])) ?_) | (refine stpQ ?_))
   refine ⟨k + 1, by omega, by omega, ?_⟩
   (refine z02 (by rfl) ?_ ?_) <;> (repeat' (first | (exact eqA) | (refine shE ?_) | (refine And.intro ?_ ?_)))
   rw [hnx]
  ·obtain rfl : k = us.length := by omega
   rw [List.take_length] at hok ⊢
   repeat ((try conv => whnf); first | (refine stpQ ?_))
   (refine z00 (by rfl) ?_ ?_ (by rfl)) <;> (repeat' (first | (exact eqA) | (refine shE ?_) | (refine And.intro ?_ ?_)))
theorem z8q (l : List Lf) (u : Ch) (h : z06 l = true) (hf : zcF u) : CT Tryz.prog 193 [] [.sl 2 (lvE l), .agg (chL u)] (.ref 1) [.row 2 (lvE (z4h l u))] := by
 obtain ⟨hl, hfl⟩ := z2L h
 obtain ⟨id, n, v⟩ := u
 have cD := zcE l n (by omega) hfl
 have cP := zfd l n v (by omega) hfl (zhg h hf.1 hf.2)
 refine z01 z0q 1 rfl Tryz.func193 rfl rfl rfl ?_
 cases v with
 | nil =>
   repeat ((try conv => whnf); first | (refine ccA ([]) (cD) ?_) | (refine z0k rfl ?_) | (refine stpQ ?_))
   (refine z00 (by rfl) ?_ ?_ (by rfl)) <;> (repeat' (first | (exact eqA) | (refine shE ?_) | (refine And.intro ?_ ?_))) <;> first | rfl | decide
 | cons b v =>
   have hne : ¬ (b :: v = []) := by simp
   repeat ((try conv => whnf); first | (refine ccA ([]) (cP) ?_) | (refine z0e hne ?_) | (refine stpQ ?_))
   (refine z00 (by rfl) ?_ ?_ (by rfl)) <;> (repeat' (first | (exact eqA) | (refine shE ?_) | (refine And.intro ?_ ?_))) <;> first | rfl | decide
theorem zjE {us : List Ch} {l : List Lf} (h : z06 l = true) : z06 (us.foldl z4h l) = true := by rw [zhf h]; exact z9L h
theorem z7w (l : List Lf) (us : List Ch) (h : z06 l = true) (hu : (us.length : Int) ≤ 1000000) (hf : ∀ k, zcF (chAt us k)) : CT Tryz.prog 128 [] [.sl 2 (lvE l), .sl 3 (chE us)] (.ref 1) [.row 2 (lvE (us.foldl z4h l))] := by
 obtain ⟨hl, hfl⟩ := z2L h
 have hlen := z2Z us
 have hll := z0N l
 refine z01 z0q 1 rfl Tryz.func128 rfl rfl rfl ?_
 repeat ((try conv => whnf); first | (refine And.intro (by simp [z0N]; omega) ?_) | (refine stpQ ?_))
 refine z0f Nat (fun k => ⟨[(1, .sl 3 (chE us)), (5, .ref 1), (6, .int .i64 (k : Int))], [(1, some (.row 2 (lvE ((us.take k).foldl z4h l))))], 2⟩) (fun k => k ≤ us.length) (fun k => us.length - k) 0 (by omega) ?_ ?_
 ·(refine z02 (by rfl) ?_ ?_) <;> (repeat' (first | (exact eqA) | (refine shE ?_) | (refine And.intro ?_ ?_))) <;> first | rfl | decide
 ·intro k hk
  have hok : z06 ((us.take k).foldl z4h l) = true := zjE h
  by_cases hlt : k < us.length
  ·have hnx := zhh z4h l hlt
   have cA := z8q ((us.take k).foldl z4h l) (chAt us k) hok (hf k)
   repeat ((try conv => whnf); first | (refine i_at (z4E hlt) ?_) | (refine z3K ([1]) ([]) (cA) (by ((repeat' (first | (exact trivial) | (exact rfl) | (decide) | (refine And.intro ?_ ?_))); first | done | fail)) (by ((repeat' (first | (exact trivial) | (exact rfl) | (decide) | (refine And.intro ?_ ?_))); first | done | fail)) (by decide) (by rfl) (by first | exact .inl rfl | (refine .inr ⟨?_, ?_⟩ <;> simp [own2, own1, own0, ownE])) ?_) | (refine stpQ ?_))
   refine ⟨k + 1, by omega, by omega, ?_⟩
   (refine z02 (by rfl) ?_ ?_) <;> (repeat' (first | (exact eqA) | (refine shE ?_) | (refine And.intro ?_ ?_)))
   rw [hnx]
  ·obtain rfl : k = us.length := by omega
   rw [List.take_length] at hok ⊢
   repeat ((try conv => whnf); first | (refine stpQ ?_))
   (refine z00 (by rfl) ?_ ?_ (by rfl)) <;> (repeat' (first | (exact eqA) | (refine shE ?_) | (refine And.intro ?_ ?_)))
end Go.Proofs.YthcfalipgnpelaaGreatDoor
namespace Go.Proofs.YthcfalipgnpelaaGreatDoor
set_option linter.unusedVariables false
set_option linter.unusedSimpArgs false
set_option linter.unusedSectionVars false
open Go.RowKit Pl
theorem zb7 (t : Bs) : z0I t = z1j t := by
 rcases hA : z18 t 0 false with ⟨a, p1, b1⟩
 rcases hN : z0G t p1 b1 with ⟨n, p2, b2⟩
 rcases hV : z0G t p2 b2 with ⟨v, p3, b3⟩
 simp only [z0I, hA, hN, hV]
 simp only [z1j, zgU, hA]
 cases b1
 ·simp only [z7o, hN]
  cases b2
  ·simp only [z7o, hV]
   cases b3
   ·obtain ⟨_, _, e1, l1⟩ := zgV hA
    obtain ⟨_, _, e2, l2⟩ := z3P hN
    obtain ⟨_, _, e3, l3⟩ := z3P hV
    have et : t = z17 a n v ++ t.drop p3 := by
     have : t = t.drop 0 := rfl
     conv => lhs; rw [this, e1, e2, e3]
     simp [z17]
    have el : p3 = (z17 a n v).length := by simp [z17]; omega
    by_cases hd : t.drop p3 = []
    ·have h1 : p3 = t.length := by rw [hd, List.append_nil] at et; rw [el, ← et]
     have h2 : z17 a n v = t := by rw [hd, List.append_nil] at et; exact et.symm
     simp [z1n, h1, h2]
    ·have h1 : p3 ≠ t.length := fun c => hd (List.drop_eq_nil_of_le (by omega))
     have h2 : z17 a n v ≠ t := fun c => h1 (by rw [el, c])
     simp [z1n, h1, h2]
   ·simp [z1n]
  ·have h3 := z4V t p2
   rw [hV] at h3
   simp only at h3
   subst h3
   simp [z1n, z1q]
 ·have h2 := z4V t p1
  rw [hN] at h2
  simp only at h2
  subst h2
  have h3 := z4V t p2
  rw [hV] at h3
  simp only at h3
  subst h3
  simp [z1n, z1q]
theorem zhj {t : Bs} {a : Nat} {n v : Bs} (h : z0I t = some (a, n, v)) : zcF ((a : Int), n, v) := by
 rw [zb7] at h
 rcases hA : numS t 0 false with ⟨a', p1, b1⟩
 rcases hN : z1q t p1 b1 with ⟨n', p2, b2⟩
 rcases hV : z1q t p2 b2 with ⟨v', p3, b3⟩
 simp only [z1j, hA, hN, hV] at h
 split at h
 ·rename_i hc
  injection h with h
  simp only [Prod.mk.injEq] at h
  obtain ⟨rfl, rfl, rfl⟩ := h
  have ho := hc.2.1
  unfold z0r at ho
  simp only [Bool.and_eq_true, Bool.or_eq_true, decide_eq_true_eq] at ho
  have h1 := z27 ho.1.2
  refine ⟨by show (n'.length : Int) ≤ _; omega, ?_⟩
  show (v'.length : Int) ≤ _
  rcases ho.2 with h2 | h2
  ·cases v' with
   | nil => simp
   | cons _ _ => cases h2
  ·have := z2r h2; omega
 ·cases h
theorem z3p {t : Bs} {a : Nat} {n v : Bs} (h : z0I t = some (a, n, v)) : z0r (a : Int) n v = true := by
 rcases hA : z18 t 0 false with ⟨a', p1, b1⟩
 rcases hN : z0G t p1 b1 with ⟨n', p2, b2⟩
 rcases hV : z0G t p2 b2 with ⟨v', p3, b3⟩
 simp only [z0I, hA, hN, hV] at h
 split at h
 ·rename_i hc
  injection h with h
  simp only [Prod.mk.injEq] at h
  obtain ⟨rfl, rfl, rfl⟩ := h
  simp only [Bool.and_eq_true] at hc
  exact hc.2
 ·cases h
end Go.Proofs.YthcfalipgnpelaaGreatDoor
namespace Go.Proofs.YthcfalipgnpelaaGreatDoor
set_option linter.unusedVariables false
set_option linter.unusedSimpArgs false
set_option linter.unusedSectionVars false
open Pl
abbrev Fl := Bs × Bs × Int
def flAt (l : List Fl) (k : Nat) : Fl := l.getD k ([], [], 0)
theorem zhk {l : List Fl} {k : Nat} (h : k < l.length) : flAt l k = l[k] := by simp [flAt, List.getD, List.getElem?_eq_getElem h]
def z37 (l : List Fl) (i : Nat) : Bool := inB ((flAt l i).1.length : Int) 1 8 && decide (((flAt l i).2.1.length : Int) ≤ 20000) && inB (flAt l i).2.2 0 ((flAt l i).2.1.length : Int) && (i == 0 || ltB (flAt l (i - 1)).1 (flAt l i).1)
def z32 (l : List Fl) : Bool := decide (l.length ≤ 30) && (List.range l.length).all (z37 l)
theorem z4u {l : List Fl} {k : Nat} (hk : k < l.length) (h : z37 l k = false) : z32 l = false := by
 have : (List.range l.length).all (z37 l) = false := by
  rw [List.all_eq_false]
  exact ⟨k, List.mem_range.2 hk, by simp [h]⟩
 rw [z32, this, Bool.and_false]
theorem z7E {l : List Fl} (h : 30 < l.length) : z32 l = false := by
 have : decide (l.length ≤ 30) = false := by simp; omega
 rw [z32, this, Bool.false_and]
theorem z4Z {l : List Fl} (hl : l.length ≤ 30) (h : ∀ k, k < l.length → z37 l k = true) : z32 l = true := by
 have h1 : decide (l.length ≤ 30) = true := by simpa using hl
 have h2 : (List.range l.length).all (z37 l) = true := List.all_eq_true.2 fun k hk => h k (List.mem_range.1 hk)
 rw [z32, h1, h2]; rfl
theorem zfg {l : List Fl} : z32 l = true ↔ l.length ≤ 30 ∧ ∀ k, k < l.length → z37 l k = true := by
 constructor
 ·intro h
  rw [z32, Bool.and_eq_true, decide_eq_true_iff, List.all_eq_true] at h
  exact ⟨h.1, fun k hk => h.2 k (List.mem_range.2 hk)⟩
 ·rintro ⟨h1, h2⟩; exact z4Z h1 h2
theorem zfh {l : List Fl} {k : Nat} (h : z37 l k = true) : (flAt l k).2.1.length ≤ 20000 := by
 simp only [z37, Bool.and_eq_true, decide_eq_true_eq] at h
 have := h.1.1.2
 omega
def z43 (l : List Fl) (n : Bs) : Option Nat := l.findIdx? fun x => x.1 == n
theorem zhl {l : List Fl} {n : Bs} {k : Nat} (h : k < l.length) (hx : ∀ j, j < k → (flAt l j).1 ≠ n) (he : (flAt l k).1 = n) : z43 l n = some k := by
 rw [z43, List.findIdx?_eq_some_iff_getElem]
 refine ⟨h, by rw [← zhk h, he]; simp, fun j hj => ?_⟩
 have := hx j hj
 rw [zhk (by omega)] at this
 simpa using this
theorem zhm {l : List Fl} {n : Bs} (hx : ∀ j, j < l.length → (flAt l j).1 ≠ n) : z43 l n = none := by
 rw [z43, List.findIdx?_eq_none_iff]
 intro x hm
 obtain ⟨j, hj, rfl⟩ := List.getElem_of_mem hm
 have := hx j hj
 rw [zhk hj] at this
 simpa using this
theorem zlN {l : List Fl} {n : Bs} {k : Nat} (h : z43 l n = some k) : k < l.length := by
 rw [z43, List.findIdx?_eq_some_iff_getElem] at h
 exact h.1
def ixI : Option Nat → Int
 | some k => (k : Int)
 | none => -1
def z2G (l : List Fl) (n : Bs) : Option Bs := (z43 l n).map fun i => (flAt l i).2.1
theorem zcI {l : List Fl} {n t : Bs} (h : z32 l = true) (hg : z2G l n = some t) : t.length ≤ 20000 := by
 unfold z2G at hg
 cases hi : z43 l n with
 | none => rw [hi] at hg; cases hg
 | some k =>
   rw [hi] at hg
   injection hg with hg
   subst hg
   exact zfh ((zfg.1 h).2 k (zlN hi))
def z7F (t : Bs) : Bs := z0d t.length ++ z3O (z44 t) ++ t
def unf (f : Bs) : Nat → Nat → List Bs × Nat
 | 0, p => ([], p)
 | k + 1, p => match z0w f p with
   | none => ([], p)
   | some (n, q) => if 1 ≤ n ∧ n ≤ 9000 ∧ n + 4 ≤ f.length - q ∧ (f.drop q).take 4 = z3O (z44 ((f.drop (q + 4)).take n)) then
      (((f.drop (q + 4)).take n) :: (unf f k (q + 4 + n)).1, (unf f k (q + 4 + n)).2)
     else ([], p)
def z0V (f : Bs) : List Bs × Nat := if 20000 < f.length then ([], 0) else unf f (f.length + 1) 0
def UfAt (R : List Bs × Nat) (f : Bs) (k : Nat) (l : List Bs) (p : Nat) : Prop := R = (l ++ (unf f k p).1, (unf f k p).2)
theorem UfAt.stop {R : List Bs × Nat} {f : Bs} {k : Nat} {l : List Bs} {p : Nat} (h : UfAt R f (k + 1) l p) (hr : z0w f p = none) : R = (l, p) := by
 rw [h, unf, hr]; simp
theorem UfAt.bad {R : List Bs × Nat} {f : Bs} {k : Nat} {l : List Bs} {p n q : Nat} (h : UfAt R f (k + 1) l p) (hr : z0w f p = some (n, q))
 (hn : ¬ (1 ≤ n ∧ n ≤ 9000 ∧ n + 4 ≤ f.length - q ∧ (f.drop q).take 4 = z3O (z44 ((f.drop (q + 4)).take n)))) : R = (l, p) := by
 rw [h, unf, hr]; simp only; rw [if_neg hn]; simp
theorem UfAt.step {R : List Bs × Nat} {f : Bs} {k : Nat} {l : List Bs} {p n q : Nat} (h : UfAt R f (k + 1) l p) (hr : z0w f p = some (n, q))
 (hn : 1 ≤ n ∧ n ≤ 9000 ∧ n + 4 ≤ f.length - q ∧ (f.drop q).take 4 = z3O (z44 ((f.drop (q + 4)).take n))) : UfAt R f k (l ++ [(f.drop (q + 4)).take n]) (q + 4 + n) := by
 unfold UfAt at h ⊢
 rw [h, unf, hr]; simp only; rw [if_pos hn]; simp
theorem zb8 (f : Bs) : ∀ k p, (∀ t ∈ (unf f k p).1, 1 ≤ t.length ∧ t.length ≤ 9000) ∧ (unf f k p).1.length ≤ k
 | 0, p => ⟨fun t h => by simp [unf] at h, by simp [unf]⟩
 | k + 1, p => by
   rw [unf]
   split
   ·exact ⟨fun t h => by simp at h, by simp⟩
   ·rename_i n q hr
    split
    ·rename_i hc
     have ih := zb8 f k (q + 4 + n)
     refine ⟨fun t h => ?_, by simp; exact ih.2⟩
     simp only [List.mem_cons] at h
     rcases h with rfl | h
     ·simp; omega
     ·exact ih.1 t h
    ·exact ⟨fun t h => by simp at h, by simp⟩
theorem z9Q (f : Bs) : (∀ t ∈ (z0V f).1, 1 ≤ t.length ∧ t.length ≤ 9000) ∧ (z0V f).1.length ≤ 20001 := by
 unfold z0V
 split
 ·exact ⟨fun t h => by simp at h, by simp⟩
 ·have := zb8 f (f.length + 1) 0
  exact ⟨this.1, by have := this.2; omega⟩
theorem zhn {f : Bs} {p n q : Nat} (hr : z0w f p = some (n, q)) (hn : n + 4 ≤ f.length - q) :
 z7F ((f.drop (q + 4)).take n) = (f.drop p).take (q + 4 + n - p) ↔ (f.drop q).take 4 = z3O (z44 ((f.drop (q + 4)).take n)) := by
 obtain ⟨he, hq⟩ := z4U hr
 have hl : ((f.drop (q + 4)).take n).length = n := by simp; omega
 have e : (f.drop p).take (q + 4 + n - p) = z0d n ++ (f.drop q).take 4 ++ (f.drop (q + 4)).take n := by
  rw [he, hq, show p + (z0d n).length + 4 + n - p = (z0d n).length + (4 + n) by omega, List.take_length_add_append, List.take_add, List.drop_drop, List.append_assoc]
 rw [e, z7F, hl, List.append_cancel_right_eq, List.append_cancel_left_eq]
 exact eq_comm
def z0i (l : List Fl) (n : Bs) : List Bs := if z32 l = true then (z0V ((z2G l n).getD [])).1 else []
theorem z1h (l : List Fl) (n : Bs) : (∀ t ∈ z0i l n, 1 ≤ t.length ∧ t.length ≤ 9000) ∧ (z0i l n).length ≤ 20001 := by
 unfold z0i
 split
 ·exact z9Q _
 ·exact ⟨fun t h => by simp at h, by simp⟩
def z2i (nm : Bs) (K : Int) : Nat := if 0 ≤ K ∧ K ≤ 2 then ixB nm / 2 ^ (8 - K.toNat) else 0
structure Sv where
 ep : Nat
 vs : List (List Lf)
 tk : List Nat
 al : List Ch
 re : Nat
 rt : Nat
 rk : Nat
def sv0 : Sv := ⟨0, [[]], [0], [], 0, 0, 0⟩
def z2j (s : Sv) : List Lf := (s.al.take s.rk).foldl z1s []
def z1z (s : Sv) : Sv := ⟨s.ep + 1, s.vs ++ [z2j s], s.tk ++ [s.rk], s.al, 0, 0, 0⟩
def z45 (l : List Nat) : Nat := l.getLastD 0
def idIx (l : List Ch) (id : Int) : Option Nat := l.findIdx? fun x => x.1 == id
inductive Rk where
 | no | all (u : Ch) | rdy (e y k : Nat) | com
def num1 (t : Bs) : Nat × Nat × Bool := z18 t 1 false
def num2 (t : Bs) : Nat × Nat × Bool := z18 t (num1 t).2.1 (num1 t).2.2
def num3 (t : Bs) : Nat × Nat × Bool := z18 t (num2 t).2.1 (num2 t).2.2
def rkOf (a K : Int) (s : Sv) : Bs → Rk
 | [] => .no
 | b :: r =>
   if b.toNat = 1 then match z0I r with
    | some (id, n, v) => if (z2i n K : Int) = a ∧ idIx s.al (id : Int) = none then .all ((id : Int), n, v) else .no
    | none => .no
   else if b.toNat = 2 then
    if z1n (num3 (b :: r)).2.2 (num3 (b :: r)).2.1 (r.length + 1) = true ∧ (num1 (b :: r)).1 = s.ep + 1 ∧ (num1 (b :: r)).1 ≤ 4 ∧ s.rt < (num2 (b :: r)).1 ∧ (num2 (b :: r)).1 ≤ 1000 ∧
     z45 s.tk ≤ (num3 (b :: r)).1 ∧ (num3 (b :: r)).1 ≤ s.al.length
    then .rdy (num1 (b :: r)).1 (num2 (b :: r)).1 (num3 (b :: r)).1 else .no
   else if b.toNat = 3 then
    if z1n (num1 (b :: r)).2.2 (num1 (b :: r)).2.1 (r.length + 1) = true ∧ (num1 (b :: r)).1 = s.re ∧ (num1 (b :: r)).1 ≠ 0 then .com else .no
   else if b.toNat = 4 then
    if z1n (num2 (b :: r)).2.2 (num2 (b :: r)).2.1 (r.length + 1) = true ∧ (num1 (b :: r)).1 = s.re ∧ (num2 (b :: r)).1 = s.rt ∧ (num1 (b :: r)).1 ≠ 0 then .rdy 0 0 0 else .no
   else .no
def rkDo (s : Sv) : Rk → Sv
 | .no => s
 | .all u => { s with al := s.al ++ [u] }
 | .rdy e y k => { s with re := e, rt := y, rk := k }
 | .com => z1z s
def z7G (a K : Int) (s : Sv) (t : Bs) : Sv := rkDo s (rkOf a K s t)
def svOf (a K : Int) (ts : List Bs) : Sv := ts.foldl (z7G a K) sv0
structure SvOk (n : Nat) (s : Sv) : Prop where
 ep : s.ep ≤ 4
 vl : s.vs.length = s.ep + 1
 tl : s.tk.length = s.ep + 1
 al : s.al.length ≤ n
 tb : ∀ x ∈ s.tk, x ≤ s.al.length
 ch : ∀ u ∈ s.al, z0r u.1 u.2.1 u.2.2 = true
 re : s.re = 0 ∨ s.re = s.ep + 1
 r4 : s.re ≤ 4
 rt : s.rt ≤ 1000
 rk : s.rk ≤ s.al.length
 vo : ∀ v ∈ s.vs, z06 v = true
theorem sv0_ok : SvOk 0 sv0 := ⟨by decide, rfl, rfl, Nat.le_refl _, by simp [sv0], by simp [sv0], .inl rfl, by decide, by decide, by decide, by simp [sv0, z06]⟩
theorem zb9 (s : Sv) : z06 (z2j s) = true := z9L (by simp [z06])
theorem zjG {a K : Int} {n : Nat} {s : Sv} {t : Bs} (h : SvOk n s) : SvOk (n + 1) (z7G a K s t) := by
 have weak : SvOk (n + 1) s := { h with al := by have := h.al; omega }
 unfold z7G
 cases t with
 | nil => exact weak
 | cons b r =>
   rw [rkOf]
   split
   ·split
    ·rename_i id nm v hr
     split
     ·rename_i hc
      refine { h with al := by simp [rkDo]; exact h.al, tb := fun x hx => ?_, ch := fun u hu => ?_, rk := ?_ }
      ·have := h.tb x hx; simp [rkDo]; omega
      ·simp only [rkDo, List.mem_append, List.mem_singleton] at hu
       rcases hu with hu | rfl
       ·exact h.ch u hu
       ·exact z3p hr
      ·have := h.rk; simp [rkDo]; omega
     ·exact weak
    ·exact weak
   ·split
    ·split
     ·rename_i hc
      obtain ⟨-, h1, h2, h3, h4, h5, h6⟩ := hc
      exact { weak with re := .inr h1, r4 := h2, rt := h4, rk := h6 }
     ·exact weak
    ·split
     ·split
      ·rename_i hc
       obtain ⟨-, h1, h2⟩ := hc
       have hre : s.re = s.ep + 1 := by rcases h.re with e | e <;> omega
       have h4 := h.r4
       refine ⟨by simp [rkDo, z1z]; omega, by simp [rkDo, z1z, h.vl], by simp [rkDo, z1z, h.tl], weak.al, fun x hx => ?_, h.ch, .inl rfl, by simp [rkDo, z1z], by simp [rkDo, z1z], by simp [rkDo, z1z], fun v hv => ?_⟩
       ·simp only [rkDo, z1z, List.mem_append, List.mem_singleton] at hx ⊢
        rcases hx with hx | rfl
        ·exact h.tb x hx
        ·exact h.rk
       ·simp only [rkDo, z1z, List.mem_append, List.mem_singleton] at hv
        rcases hv with hv | rfl
        ·exact h.vo v hv
        ·exact zb9 s
      ·exact weak
     ·split
      ·split
       ·exact { weak with re := .inl rfl, r4 := by simp [rkDo], rt := by simp [rkDo], rk := by simp [rkDo] }
       ·exact weak
      ·exact weak
theorem zba (a K : Int) : ∀ (ts : List Bs) (s : Sv) (n : Nat), SvOk n s → SvOk (n + ts.length) (ts.foldl (z7G a K) s)
 | [], s, n, h => h
 | t :: ts, s, n, h => by
   have := zba a K ts _ _ (zjG (a := a) (K := K) (t := t) h)
   rw [List.length_cons, show n + (ts.length + 1) = n + 1 + ts.length by omega]
   exact this
theorem z7H (a K : Int) (ts : List Bs) : SvOk ts.length (svOf a K ts) := by
 have := zba a K ts sv0 0 sv0_ok
 rwa [Nat.zero_add] at this
theorem zho (a K : Int) {ts : List Bs} {k : Nat} (h : k < ts.length) : svOf a K (ts.take (k + 1)) = z7G a K (svOf a K (ts.take k)) ts[k] := by
 unfold svOf
 rw [List.take_succ_eq_append_getElem h, List.foldl_append]; rfl
end Go.Proofs.YthcfalipgnpelaaGreatDoor
