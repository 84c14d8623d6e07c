/- Plain: texts of proofs of many; parts read one behind the other. -/
import Derived.Test.YtceegbenenakaaaGreatDoorMri
import Derived.Test.YtceegbenenakaaaGreatDoorPs
import Derived.Test.YtceegbenenakaaaGreatDoorSnd
namespace Go.Proofs.YtceegbenenakaaaGreatDoor
set_option linter.unusedVariables false
set_option linter.unusedSimpArgs false
set_option linter.unusedSectionVars false
open Go.RowKit Pl
theorem z7p (l : List (List Lf)) : bkE l = vwE l := rfl
def bkT (b : List Lf) : Bs := z0c (z0p b)
def z3H (names : List Bs) (bks : List (List Lf)) (sides : List Bs) : Bs := z0e names.length ++ (names.flatMap z0c ++ (z0e bks.length ++ (bks.flatMap bkT ++ (z0e sides.length ++ sides.flatten))))
theorem za5 {α : Type} {f : α → Bs} {c : Nat} : ∀ {l : List α}, (∀ x ∈ l, (f x).length ≤ c) → (l.flatMap f).length ≤ c * l.length
 | [], _ => by simp
 | x :: l, h => by
   have ih := za5 (f := f) (l := l) fun y hy => h y (by simp [hy])
   have := h x (by simp)
   rw [List.flatMap_cons, List.length_append, List.length_cons, Nat.mul_add]
   omega
theorem zbF {α : Type} {f : α → Bs} {l : List α} {i : Nat} (h : i < l.length) : (l.take (i + 1)).flatMap f = (l.take i).flatMap f ++ f l[i] := by
 rw [List.take_succ_eq_append_getElem h, List.flatMap_append]; simp
theorem ze9 {c : Nat} : ∀ {l : List Bs}, (∀ x ∈ l, x.length ≤ c) → l.flatten.length ≤ c * l.length
 | [], _ => by simp
 | x :: l, h => by
   have ih := ze9 (l := l) fun y hy => h y (by simp [hy])
   have := h x (by simp)
   rw [List.flatten_cons, List.length_append, List.length_cons, Nat.mul_add]
   omega
theorem z4W {l : List Lf} (h : leavesOk l = true) : (z0p l).length ≤ 1100 := by
 obtain ⟨h1, h2, _⟩ := z0z h
 have a := za5 (f := z1b) (c := 44) (l := l) fun x hx => by
  have := h2 x hx
  have c1 := z1m this.1
  have c2 := z1n this.2
  have a := z1d (l := x.1) (by omega)
  have b := z1d (l := x.2) (by omega)
  simp only [z1b, List.length_append]
  omega
 have b := z1r (n := l.length) (by omega)
 simp only [z0p, List.length_append]
 omega
theorem zbG {l : List Lf} (h : leavesOk l = true) : (bkT l).length ≤ 1110 := by
 have a := z4W h
 have b := z1d (l := z0p l) (by omega)
 unfold bkT; omega
theorem z49 : ∀ l : List Nat, (lvUp l).length ≤ l.length
 | [] => Nat.le_refl _
 | [_] => Nat.le_refl _
 | p :: q :: l => by
   have h1 := z49 l
   have h2 := z49 (q :: l)
   rw [lvUp]
   split
   ·simp only [List.length_cons]; omega
   ·simp only [List.length_cons] at h2 ⊢; omega
theorem z8e : ∀ l : List Nat, lvNd l ≤ l.length
 | [] => Nat.le_refl _
 | [_] => Nat.le_refl _
 | p :: q :: l => by
   have h1 := z8e l
   have h2 := z8e (q :: l)
   rw [lvNd]
   split
   ·simp only [List.length_cons]; omega
   ·simp only [List.length_cons] at h2 ⊢; omega
theorem z6o : ∀ (n : Nat) (l : List Nat) (m : Nat), l.length ≤ m → z25 n l ≤ n * m
 | 0, l, m, h => by simp [z25]
 | n + 1, l, m, h => by
   have h1 := z8e l
   have h2 := z49 l
   have ih := z6o n (lvUp l) m (by omega)
   rw [z25, Nat.add_mul]
   omega
structure ManyF (names : List Bs) (bks : List (List Lf)) (sides : List Bs) (w : Int) : Prop where
 n1 : 1 ≤ names.length
 n8 : names.length ≤ 8
 nm : ∀ s ∈ names, s.length ≤ 12
 b8 : bks.length ≤ 8
 bl : ∀ b ∈ bks, leavesOk b = true
 w0 : 1 ≤ w ∧ w ≤ 32
 sw : ∀ s ∈ sides, (s.length : Int) = w
 s64 : sides.length ≤ 64
theorem z29 {names : List Bs} {bks : List (List Lf)} {sides : List Bs} {w : Int} (h : z3W names bks sides w = true) : ManyF names bks sides w := by
 simp only [z3W, z1v, bksB, Bool.and_eq_true, decide_eq_true_eq, List.all_eq_true, List.mem_range] at h
 obtain ⟨⟨h1, h2, h3⟩, h4, h5, h6, h7, h8⟩ := h
 have hK := z2D names
 have hm := z6o 8 (ixsN names) 8 (by omega)
 refine ⟨h2, h3, fun s hs => z1m (h1 s hs), by omega, fun b hb => ?_, z1g.1 h5, h6, by omega⟩
 obtain ⟨j, hj, rfl⟩ := List.getElem_of_mem hb
 have := (h7 j hj).1
 simpa [List.getD, List.getElem?_eq_getElem hj] using this
def rdL {α : Type} (f : Nat → α × Nat × Bool) : Nat → Nat → Bool → List α × Nat × Bool
 | 0, q, b => ([], q, b)
 | _ + 1, q, true => ([], q, true)
 | n + 1, q, false => ((f q).1 :: (rdL f n (f q).2.1 (f q).2.2).1, (rdL f n (f q).2.1 (f q).2.2).2)
def RdAt {α : Type} (f : Nat → α × Nat × Bool) (R : List α × Nat × Bool) (n : Nat) (s : List α) (q : Nat) (b : Bool) : Prop := R = (s ++ (rdL f n q b).1, (rdL f n q b).2)
theorem RdAt.step {α : Type} {f : Nat → α × Nat × Bool} {R : List α × Nat × Bool} {n : Nat} {s : List α} {q q1 : Nat} {b1 : Bool} {u : α} (h : RdAt f R (n + 1) s q false) (h1 : f q = (u, q1, b1)) : RdAt f R n (s ++ [u]) q1 b1 := by
 unfold RdAt at h ⊢
 rw [h, rdL, h1]
 simp
theorem RdAt.bad {α : Type} {f : Nat → α × Nat × Bool} {R : List α × Nat × Bool} {n : Nat} {s : List α} {q : Nat} (h : RdAt f R n s q true) : R = (s, q, true) := by
 unfold RdAt at h; rw [h]; cases n <;> simp [rdL]
theorem RdAt.done {α : Type} {f : Nat → α × Nat × Bool} {R : List α × Nat × Bool} {s : List α} {q : Nat} {b : Bool} (h : RdAt f R 0 s q b) : R = (s, q, b) := by
 unfold RdAt at h; rw [h]; simp [rdL]
theorem RdAt.stop {α : Type} {f : Nat → α × Nat × Bool} {R : List α × Nat × Bool} {n : Nat} {s : List α} {q : Nat} {b : Bool} (h : RdAt f R n s q b) (hg : b = true ∨ n = 0) : R = (s, q, b) := by
 rcases hg with rfl | rfl
 ·exact h.bad
 ·exact h.done
theorem z9q {α : Type} {f : Nat → α × Nat × Bool} {N : Nat} (hf : ∀ q, q ≤ N → (f q).2.1 ≤ N) : ∀ (n q : Nat) (b : Bool), q ≤ N → (rdL f n q b).2.1 ≤ N
 | 0, q, b, h => h
 | _ + 1, q, true, h => h
 | n + 1, q, false, h => z9q hf n _ _ (hf q h)
theorem z8f {α : Type} (f : Nat → α × Nat × Bool) : ∀ (n q : Nat) (b : Bool), (rdL f n q b).1.length ≤ n
 | 0, q, b => Nat.le_refl _
 | n + 1, q, true => by simp [rdL]
 | n + 1, q, false => by
   have := z8f f n (f q).2.1 (f q).2.2
   simp only [rdL, List.length_cons]
   omega
theorem z8g {α : Type} {f : Nat → α × Nat × Bool} {P : α → Prop} (hf : ∀ q, P (f q).1) : ∀ (n q : Nat) (b : Bool), ∀ x ∈ (rdL f n q b).1, P x
 | 0, q, b, x, h => by cases h
 | _ + 1, q, true, x, h => by cases h
 | n + 1, q, false, x, h => by
   rcases List.mem_cons.1 h with rfl | h
   ·exact hf q
   ·exact z8g hf n _ _ x h
theorem zbH {α : Type} {f : Nat → α × Nat × Bool} (hf : ∀ q, q ≤ (f q).2.1 ∧ ((f q).2.2 = false → q + 1 ≤ (f q).2.1)) : ∀ (n q : Nat) (b : Bool), q + (rdL f n q b).1.length ≤ (rdL f n q b).2.1 + 1
 | 0, q, b => by simp [rdL]
 | _ + 1, q, true => by simp [rdL]
 | n + 1, q, false => by
   obtain ⟨h1, h2⟩ := hf q
   have ih := zbH hf n (f q).2.1 (f q).2.2
   simp only [rdL, List.length_cons]
   cases hb : (f q).2.2 with
   | true =>
     rw [hb] at ih
     have e : rdL f n (f q).2.1 true = ([], (f q).2.1, true) := by cases n <;> rfl
     rw [e]
     simp only [List.length_nil]
     omega
   | false =>
     have := h2 hb
     rw [hb] at ih
     omega
theorem z6p {α : Type} {f : Nat → α × Nat × Bool} {t : Bs} {enc : α → Bs} : ∀ {l : List α} {q : Nat} {r : Bs}, (∀ x ∈ l, ∀ q r, t.drop q = enc x ++ r → f q = (x, q + (enc x).length, false)) → t.drop q = l.flatMap enc ++ r → rdL f l.length q false = (l, q + (l.flatMap enc).length, false)
 | [], q, r, _, _ => rfl
 | x :: l, q, r, hf, hd => by
   rw [List.flatMap_cons, List.append_assoc] at hd
   have h1 := hf x (by simp) q _ hd
   have h2 := z27 rfl hd
   rw [List.length_cons, rdL, h1]
   simp only
   rw [z6p (fun y hy => hf y (by simp [hy])) h2, List.flatMap_cons, List.length_append]
   simp only [Prod.mk.injEq, and_true, true_and]
   omega
def fNm (t : Bs) (q : Nat) : Bs × Nat × Bool := z0n t q false
def fBk (t : Bs) (q : Nat) : List Lf × Nat × Bool := ((z17 (z0n t q false).1).getD [], (z0n t q false).2.1, (z0n t q false).2.2 || !(z17 (z0n t q false).1).isSome)
def fSd (t : Bs) (w : Int) (q : Nat) : Bs × Nat × Bool := z5b t q false w
theorem zbI {t : Bs} {p n : Nat} {l r : Bs} (hn : l.length = n) (h : t.drop p = l ++ r) : z5b t p false (n : Int) = (l, p + n, false) := by
 unfold z5b
 rw [if_neg (by omega), Int.toNat_natCast]
 exact z8c hn h
theorem zbJ (t : Bs) (n q : Nat) : fSd t (n : Int) q = z0y t q false n := by
 unfold fSd z5b
 rw [if_neg (by omega), Int.toNat_natCast]
theorem za6 (t : Bs) (n q : Nat) : q ≤ (z0y t q false n).2.1 ∧ ((z0y t q false n).2.2 = false → q + n ≤ (z0y t q false n).2.1) := by
 rcases hB : z0y t q false n with ⟨c, q', b'⟩
 unfold z0y at hB
 split at hB
 ·simp only [Prod.mk.injEq] at hB
  obtain ⟨_, rfl, rfl⟩ := hB
  exact ⟨Nat.le_refl _, fun h => by cases h⟩
 ·simp only [Prod.mk.injEq] at hB
  obtain ⟨_, rfl, rfl⟩ := hB
  exact ⟨Nat.le_add_right _ _, fun _ => Nat.le_refl _⟩
theorem nm_dec {t : Bs} {l : List Bs} {q : Nat} {r : Bs} (h : ∀ s ∈ l, s.length ≤ 12) (hd : t.drop q = l.flatMap z0c ++ r) : rdL (fNm t) l.length q false = (l, q + (l.flatMap z0c).length, false) :=
 z6p (fun x hx q r hd => z2c (by have := h x hx; omega) hd false) hd
theorem bk_dec {t : Bs} {l : List (List Lf)} {q : Nat} {r : Bs} (h : ∀ b ∈ l, leavesOk b = true) (hd : t.drop q = l.flatMap bkT ++ r) : rdL (fBk t) l.length q false = (l, q + (l.flatMap bkT).length, false) :=
 z6p (fun x hx q r hd => by
  have e := z2c (t := t) (p := q) (l := z0p x) (r := r) (by have := z4W (h x hx); omega) hd false
  unfold fBk
  rw [e, z7T (h x hx)]
  rfl) hd
theorem sd_dec {t : Bs} {w : Int} {l : List Bs} {q : Nat} {r : Bs} (h : ∀ s ∈ l, (s.length : Int) = w) (hd : t.drop q = l.flatten ++ r) : rdL (fSd t w) l.length q false = (l, q + l.flatten.length, false) := by
 have key : l.flatMap (fun x => x) = l.flatten := by simp
 have := z6p (f := fSd t w) (t := t) (enc := fun x => x) (l := l) (q := q) (r := r) (fun x hx q r hd => by
  have := h x hx
  subst this
  exact zbI rfl hd) (by rw [key]; exact hd)
 rw [key] at this
 exact this
theorem zbK {t : Bs} : leavesOk ((z17 t).getD []) = true := by
 rw [z71]
 unfold z7R
 dsimp only
 split
 ·rename_i h
  exact h.2.1
 ·rfl
end Go.Proofs.YtceegbenenakaaaGreatDoor
