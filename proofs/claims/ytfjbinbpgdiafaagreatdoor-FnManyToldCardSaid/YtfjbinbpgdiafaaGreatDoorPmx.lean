/- Plain: texts of proofs of many; parts read one behind the other. Plain: the proof of many that entries give, and the root that it leads to. Plain: what a proof of several names leads to. -/
import Derived.Test.YtfjbinbpgdiafaaGreatDoorMrr2
import Derived.Test.YtfjbinbpgdiafaaGreatDoorPs
import Derived.Test.YtfjbinbpgdiafaaGreatDoorSnd
namespace Go.Proofs.YtfjbinbpgdiafaaGreatDoor
set_option linter.unusedVariables false
set_option linter.unusedSimpArgs false
set_option linter.unusedSectionVars false
open Go.RowKit Pl
theorem bkE_vw (l : List (List Lf)) : bkE l = vwE l := rfl
def bkT (b : List Lf) : Bs := z0e (z0l b)
def z1Z (names : List Bs) (bks : List (List Lf)) (sides : List Bs) : Bs := z0f names.length ++ (names.flatMap z0e ++ (z0f bks.length ++ (bks.flatMap bkT ++ (z0f sides.length ++ sides.flatten))))
theorem z8q {α : Type} {f : α → Bs} {c : Nat} : ∀ {l : List α}, (∀ x ∈ l, (f x).length ≤ c) → (l.flatMap f).length ≤ c * l.length
 | [], _ => by simp
 | x :: l, h => by
   have ih := z8q (f := f) (l := l) fun y hy => h y (by simp [hy])
   have := h x (by simp)
   rw [List.flatMap_cons, List.length_append, List.length_cons, Nat.mul_add]
   omega
theorem z7n {α : Type} {f : α → Bs} {l : List α} {i : Nat} (h : i < l.length) : (l.take (i + 1)).flatMap f = (l.take i).flatMap f ++ f l[i] := by
 rw [List.take_succ_eq_append_getElem h, List.flatMap_append]; simp
theorem zfx {l : List Bs} {i : Nat} (h : i < l.length) : (l.take (i + 1)).flatten = (l.take i).flatten ++ l[i] := by
 rw [List.take_succ_eq_append_getElem h, List.flatten_append]; simp
theorem ze0 {c : Nat} : ∀ {l : List Bs}, (∀ x ∈ l, x.length ≤ c) → l.flatten.length ≤ c * l.length
 | [], _ => by simp
 | x :: l, h => by
   have ih := ze0 (l := l) fun y hy => h y (by simp [hy])
   have := h x (by simp)
   rw [List.flatten_cons, List.length_append, List.length_cons, Nat.mul_add]
   omega
theorem z2U {l : List Lf} (h : leavesOk l = true) : (z0l l).length ≤ 1100 := by
 obtain ⟨h1, h2, _⟩ := z0G h
 have a := z8q (f := z1i) (c := 44) (l := l) fun x hx => by
  have := h2 x hx
  have c1 := z1D this.1
  have c2 := z27 this.2
  have a := z1q (l := x.1) (by omega)
  have b := z1q (l := x.2) (by omega)
  simp only [z1i, List.length_append]
  omega
 have b := z10 (n := l.length) (by omega)
 simp only [z0l, List.length_append]
 omega
theorem zaw {l : List Lf} (h : leavesOk l = true) : (bkT l).length ≤ 1110 := by
 have a := z2U h
 have b := z1q (l := z0l l) (by omega)
 unfold bkT; omega
theorem z3P : ∀ l : List Nat, (lvUp l).length ≤ l.length
 | [] => Nat.le_refl _
 | [_] => Nat.le_refl _
 | p :: q :: l => by
   have h1 := z3P l
   have h2 := z3P (q :: l)
   rw [lvUp]
   split
   ·simp only [List.length_cons]; omega
   ·simp only [List.length_cons] at h2 ⊢; omega
theorem z9i : ∀ l : List Nat, lvNd l ≤ l.length
 | [] => Nat.le_refl _
 | [_] => Nat.le_refl _
 | p :: q :: l => by
   have h1 := z9i l
   have h2 := z9i (q :: l)
   rw [lvNd]
   split
   ·simp only [List.length_cons]; omega
   ·simp only [List.length_cons] at h2 ⊢; omega
theorem z4G : ∀ (n : Nat) (l : List Nat) (m : Nat), l.length ≤ m → z1e n l ≤ n * m
 | 0, l, m, h => by simp [z1e]
 | n + 1, l, m, h => by
   have h1 := z9i l
   have h2 := z3P l
   have ih := z4G n (lvUp l) m (by omega)
   rw [z1e, Nat.add_mul]
   omega
structure ManyF (names : List Bs) (bks : List (List Lf)) (sides : List Bs) (w : Int) : Prop where
 n1 : 1 ≤ names.length
 n8 : names.length ≤ 8
 nm : ∀ s ∈ names, s.length ≤ 12
 b8 : bks.length ≤ 8
 bl : ∀ b ∈ bks, leavesOk b = true
 w0 : 1 ≤ w ∧ w ≤ 32
 sw : ∀ s ∈ sides, (s.length : Int) = w
 s64 : sides.length ≤ 64
theorem z21 {names : List Bs} {bks : List (List Lf)} {sides : List Bs} {w : Int} (h : z15 names bks sides w = true) : ManyF names bks sides w := by
 simp only [z15, z0N, bksB, Bool.and_eq_true, decide_eq_true_eq, List.all_eq_true, List.mem_range] at h
 obtain ⟨⟨h1, h2, h3⟩, h4, h5, h6, h7, h8⟩ := h
 have hK := z1Y names
 have hm := z4G 8 (ixsN names) 8 (by omega)
 refine ⟨h2, h3, fun s hs => z1D (h1 s hs), by omega, fun b hb => ?_, z1b.1 h5, h6, by omega⟩
 obtain ⟨j, hj, rfl⟩ := List.getElem_of_mem hb
 have := (h7 j hj).1
 simpa [List.getD, List.getElem?_eq_getElem hj] using this
def rdL {α : Type} (f : Nat → α × Nat × Bool) : Nat → Nat → Bool → List α × Nat × Bool
 | 0, q, b => ([], q, b)
 | _ + 1, q, true => ([], q, true)
 | n + 1, q, false => ((f q).1 :: (rdL f n (f q).2.1 (f q).2.2).1, (rdL f n (f q).2.1 (f q).2.2).2)
def RdAt {α : Type} (f : Nat → α × Nat × Bool) (R : List α × Nat × Bool) (n : Nat) (s : List α) (q : Nat) (b : Bool) : Prop := R = (s ++ (rdL f n q b).1, (rdL f n q b).2)
theorem RdAt.step {α : Type} {f : Nat → α × Nat × Bool} {R : List α × Nat × Bool} {n : Nat} {s : List α} {q q1 : Nat} {b1 : Bool} {u : α} (h : RdAt f R (n + 1) s q false) (h1 : f q = (u, q1, b1)) : RdAt f R n (s ++ [u]) q1 b1 := by
 unfold RdAt at h ⊢
 rw [h, rdL, h1]
 simp
theorem RdAt.bad {α : Type} {f : Nat → α × Nat × Bool} {R : List α × Nat × Bool} {n : Nat} {s : List α} {q : Nat} (h : RdAt f R n s q true) : R = (s, q, true) := by
 unfold RdAt at h; rw [h]; cases n <;> simp [rdL]
theorem RdAt.done {α : Type} {f : Nat → α × Nat × Bool} {R : List α × Nat × Bool} {s : List α} {q : Nat} {b : Bool} (h : RdAt f R 0 s q b) : R = (s, q, b) := by
 unfold RdAt at h; rw [h]; simp [rdL]
theorem RdAt.stop {α : Type} {f : Nat → α × Nat × Bool} {R : List α × Nat × Bool} {n : Nat} {s : List α} {q : Nat} {b : Bool} (h : RdAt f R n s q b) (hg : b = true ∨ n = 0) : R = (s, q, b) := by
 rcases hg with rfl | rfl
 ·exact h.bad
 ·exact h.done
theorem z5D {α : Type} {f : Nat → α × Nat × Bool} {N : Nat} (hf : ∀ q, q ≤ N → (f q).2.1 ≤ N) : ∀ (n q : Nat) (b : Bool), q ≤ N → (rdL f n q b).2.1 ≤ N
 | 0, q, b, h => h
 | _ + 1, q, true, h => h
 | n + 1, q, false, h => z5D hf n _ _ (hf q h)
theorem z48 {α : Type} (f : Nat → α × Nat × Bool) : ∀ (n q : Nat) (b : Bool), (rdL f n q b).1.length ≤ n
 | 0, q, b => Nat.le_refl _
 | n + 1, q, true => by simp [rdL]
 | n + 1, q, false => by
   have := z48 f n (f q).2.1 (f q).2.2
   simp only [rdL, List.length_cons]
   omega
theorem z5E {α : Type} {f : Nat → α × Nat × Bool} {P : α → Prop} (hf : ∀ q, P (f q).1) : ∀ (n q : Nat) (b : Bool), ∀ x ∈ (rdL f n q b).1, P x
 | 0, q, b, x, h => by cases h
 | _ + 1, q, true, x, h => by cases h
 | n + 1, q, false, x, h => by
   rcases List.mem_cons.1 h with rfl | h
   ·exact hf q
   ·exact z5E hf n _ _ x h
theorem zcX {α : Type} {f : Nat → α × Nat × Bool} (hf : ∀ q, q ≤ (f q).2.1 ∧ ((f q).2.2 = false → q + 1 ≤ (f q).2.1)) : ∀ (n q : Nat) (b : Bool), q + (rdL f n q b).1.length ≤ (rdL f n q b).2.1 + 1
 | 0, q, b => by simp [rdL]
 | _ + 1, q, true => by simp [rdL]
 | n + 1, q, false => by
   obtain ⟨h1, h2⟩ := hf q
   have ih := zcX hf n (f q).2.1 (f q).2.2
   simp only [rdL, List.length_cons]
   cases hb : (f q).2.2 with
   | true =>
     rw [hb] at ih
     have e : rdL f n (f q).2.1 true = ([], (f q).2.1, true) := by cases n <;> rfl
     rw [e]
     simp only [List.length_nil]
     omega
   | false =>
     have := h2 hb
     rw [hb] at ih
     omega
theorem z5F {α : Type} {f : Nat → α × Nat × Bool} {t : Bs} {enc : α → Bs} : ∀ {l : List α} {q : Nat} {r : Bs}, (∀ x ∈ l, ∀ q r, t.drop q = enc x ++ r → f q = (x, q + (enc x).length, false)) → t.drop q = l.flatMap enc ++ r → rdL f l.length q false = (l, q + (l.flatMap enc).length, false)
 | [], q, r, _, _ => rfl
 | x :: l, q, r, hf, hd => by
   rw [List.flatMap_cons, List.append_assoc] at hd
   have h1 := hf x (by simp) q _ hd
   have h2 := z2q rfl hd
   rw [List.length_cons, rdL, h1]
   simp only
   rw [z5F (fun y hy => hf y (by simp [hy])) h2, List.flatMap_cons, List.length_append]
   simp only [Prod.mk.injEq, and_true, true_and]
   omega
def fNm (t : Bs) (q : Nat) : Bs × Nat × Bool := z0m t q false
def fBk (t : Bs) (q : Nat) : List Lf × Nat × Bool := ((z0V (z0m t q false).1).getD [], (z0m t q false).2.1, (z0m t q false).2.2 || !(z0V (z0m t q false).1).isSome)
def fBo (t : Bs) (q : Nat) : Option (List Lf) × Nat × Bool := (z0V (z0m t q false).1, (z0m t q false).2.1, (z0m t q false).2.2)
def fSd (t : Bs) (w : Int) (q : Nat) : Bs × Nat × Bool := z1u t q false w
theorem zcY {t : Bs} {p n : Nat} {l r : Bs} (hn : l.length = n) (h : t.drop p = l ++ r) : z1u t p false (n : Int) = (l, p + n, false) := by
 unfold z1u
 rw [if_neg (by omega), Int.toNat_natCast]
 exact z9h hn h
theorem zcZ (t : Bs) (n q : Nat) : fSd t (n : Int) q = z0z t q false n := by
 unfold fSd z1u
 rw [if_neg (by omega), Int.toNat_natCast]
theorem zbj (t : Bs) (n q : Nat) : q ≤ (z0z t q false n).2.1 ∧ ((z0z t q false n).2.2 = false → q + n ≤ (z0z t q false n).2.1) := by
 rcases hB : z0z t q false n with ⟨c, q', b'⟩
 unfold z0z at hB
 split at hB
 ·simp only [Prod.mk.injEq] at hB
  obtain ⟨_, rfl, rfl⟩ := hB
  exact ⟨Nat.le_refl _, fun h => by cases h⟩
 ·simp only [Prod.mk.injEq] at hB
  obtain ⟨_, rfl, rfl⟩ := hB
  exact ⟨Nat.le_add_right _ _, fun _ => Nat.le_refl _⟩
theorem nm_dec {t : Bs} {l : List Bs} {q : Nat} {r : Bs} (h : ∀ s ∈ l, s.length ≤ 12) (hd : t.drop q = l.flatMap z0e ++ r) : rdL (fNm t) l.length q false = (l, q + (l.flatMap z0e).length, false) :=
 z5F (fun x hx q r hd => z25 (by have := h x hx; omega) hd false) hd
theorem bk_dec {t : Bs} {l : List (List Lf)} {q : Nat} {r : Bs} (h : ∀ b ∈ l, leavesOk b = true) (hd : t.drop q = l.flatMap bkT ++ r) : rdL (fBk t) l.length q false = (l, q + (l.flatMap bkT).length, false) :=
 z5F (fun x hx q r hd => by
  have e := z25 (t := t) (p := q) (l := z0l x) (r := r) (by have := z2U (h x hx); omega) hd false
  unfold fBk
  rw [e, z5j (h x hx)]
  rfl) hd
def bkO (l : List (List Lf)) : List (Option (List Lf)) := l.map some
theorem bo_dec {t : Bs} {l : List (List Lf)} {q : Nat} {r : Bs} (h : ∀ b ∈ l, leavesOk b = true) (hd : t.drop q = l.flatMap bkT ++ r) : rdL (fBo t) l.length q false = (bkO l, q + (l.flatMap bkT).length, false) := by
 have key : (bkO l).flatMap (fun o => bkT (o.getD [])) = l.flatMap bkT := by simp [bkO, List.flatMap_map]
 have hl : (bkO l).length = l.length := by simp [bkO]
 have := z5F (f := fBo t) (t := t) (enc := fun o => bkT (o.getD [])) (l := bkO l) (q := q) (r := r) (fun o ho q r hd => by
  simp only [bkO, List.mem_map] at ho
  obtain ⟨x, hx, rfl⟩ := ho
  have e := z25 (t := t) (p := q) (l := z0l x) (r := r) (by have := z2U (h x hx); omega) hd false
  unfold fBo
  rw [e, z5j (h x hx)]
  rfl) (by rw [key]; exact hd)
 rw [key, hl] at this
 exact this
theorem sd_dec {t : Bs} {w : Int} {l : List Bs} {q : Nat} {r : Bs} (h : ∀ s ∈ l, (s.length : Int) = w) (hd : t.drop q = l.flatten ++ r) : rdL (fSd t w) l.length q false = (l, q + l.flatten.length, false) := by
 have key : l.flatMap (fun x => x) = l.flatten := by simp
 have := z5F (f := fSd t w) (t := t) (enc := fun x => x) (l := l) (q := q) (r := r) (fun x hx q r hd => by
  have := h x hx
  subst this
  exact zcY rfl hd) (by rw [key]; exact hd)
 rw [key] at this
 exact this
theorem z8r {t : Bs} : leavesOk ((z0V t).getD []) = true := by
 rw [z4h]
 unfold z73
 dsimp only
 split
 ·rename_i h
  exact h.2.1
 ·rfl
end Go.Proofs.YtfjbinbpgdiafaaGreatDoor
namespace Go.Proofs.YtfjbinbpgdiafaaGreatDoor
set_option linter.unusedVariables false
set_option linter.unusedSimpArgs false
set_option linter.unusedSectionVars false
open Go.RowKit Pl
def sdL (l : List Lf) (w d : Nat) : List Nat → List Bs
 | [] => []
 | [p] => [z0D l w d (x1 p)]
 | p :: q :: r => if p % 2 = 0 ∧ q = p + 1 then sdL l w d r else z0D l w d (x1 p) :: sdL l w d (q :: r)
def sdA (l : List Lf) (w : Nat) : Nat → Nat → List Nat → List Bs
 | 0, _, _ => []
 | n + 1, d, L => sdL l w d L ++ sdA l w n (d + 1) (lvUp L)
theorem z9k (l : List Lf) (w d : Nat) : ∀ L : List Nat, (sdL l w d L).length = lvNd L
 | [] => rfl
 | [_] => rfl
 | p :: q :: r => by
   have h1 := z9k l w d r
   have h2 := z9k l w d (q :: r)
   rw [sdL, lvNd]
   split
   ·exact h1
   ·rw [List.length_cons, h2]
theorem z7q (l : List Lf) (w : Nat) : ∀ (n d : Nat) (L : List Nat), (sdA l w n d L).length = z1e n L
 | 0, d, L => rfl
 | n + 1, d, L => by rw [sdA, z1e, List.length_append, z9k, z7q l w n]
theorem z7r {l : List Lf} {w d : Nat} (h : w ≤ 32) : ∀ (L : List Nat), ∀ s ∈ sdL l w d L, s.length = w
 | [], s, hs => by cases hs
 | [p], s, hs => by
   rw [sdL, List.mem_singleton] at hs
   subst hs; exact z2p h _ _
 | p :: q :: r, s, hs => by
   rw [sdL] at hs
   split at hs
   ·exact z7r h r s hs
   ·rcases List.mem_cons.1 hs with rfl | hs
    ·exact z2p h _ _
    ·exact z7r h (q :: r) s hs
theorem zax {l : List Lf} {w : Nat} (h : w ≤ 32) : ∀ (n d : Nat) (L : List Nat), ∀ s ∈ sdA l w n d L, s.length = w
 | 0, d, L, s, hs => by cases hs
 | n + 1, d, L, s, hs => by
   rw [sdA] at hs
   rcases List.mem_append.1 hs with hs | hs
   ·exact z7r h _ s hs
   ·exact zax h n _ _ s hs
theorem ze1 {l : List Lf} {w d : Nat} {L : List Nat} {k : Nat} (h : k + 1 < L.length) (h0 : L[k] % 2 = 0) (h1 : L[k + 1] = L[k] + 1) : sdL l w d (L.drop k) = sdL l w d (L.drop (k + 2)) := by
 rw [zdS h, sdL, if_pos ⟨h0, h1⟩]
theorem zfy {l : List Lf} {w d : Nat} {L : List Nat} {k : Nat} (h : k < L.length) (hn : ∀ h2 : k + 1 < L.length, ¬ (L[k] % 2 = 0 ∧ L[k + 1] = L[k] + 1)) : sdL l w d (L.drop k) = z0D l w d (x1 L[k]) :: sdL l w d (L.drop (k + 1)) := by
 by_cases h2 : k + 1 < L.length
 ·rw [zdS h2, sdL, if_neg (hn h2), List.drop_eq_getElem_cons h2]
 ·rw [List.drop_eq_getElem_cons h, List.drop_eq_nil_of_le (by omega), sdL, sdL]
theorem z7s {n : Nat} : ∀ (L : List Nat), (∀ x ∈ L, x < 2 ^ (n + 1)) → ∀ y ∈ lvUp L, y < 2 ^ n
 | [], h, y, hy => by cases hy
 | [p], h, y, hy => by
   rw [lvUp, List.mem_singleton] at hy
   have := h p (by simp)
   rw [Nat.pow_succ] at this
   omega
 | p :: q :: l, h, y, hy => by
   have hp := h p (by simp)
   rw [Nat.pow_succ] at hp
   rw [lvUp] at hy
   split at hy
   ·rcases List.mem_cons.1 hy with rfl | hy
    ·omega
    ·exact z7s l (fun x hx => h x (by simp [hx])) y hy
   ·rcases List.mem_cons.1 hy with rfl | hy
    ·omega
    ·exact z7s (q :: l) (fun x hx => h x (List.mem_cons_of_mem _ hx)) y hy
def mnB (l : List Lf) (names : List Bs) : List (List Lf) := (ixsN names).map fun (p : Nat) => z0k l (p : Int)
def mnS (l : List Lf) (names : List Bs) (w : Nat) : List Bs := sdA l w 8 0 (ixsN names)
theorem z8s (l : List Lf) (p : Int) : z0k (z0k l p) p = z0k l p := by
 unfold z0k
 rw [List.filter_filter]
 apply List.filter_congr
 intro x _
 simp
theorem z7t (l : List Lf) (names : List Bs) : (mnB l names).length = (ixsN names).length := by simp [mnB]
theorem mnB_ok {l : List Lf} (h : leavesOk l = true) (names : List Bs) : ∀ b ∈ mnB l names, leavesOk b = true := fun b hb => by
 simp only [mnB, List.mem_map] at hb
 obtain ⟨p, _, rfl⟩ := hb
 exact wh.bucket_ok h
theorem zbk {l : List Lf} {names : List Bs} {w : Nat} (h : leavesOk l = true) (hn : z0N names = true) (hw : 1 ≤ w ∧ w ≤ 32) : z15 names (mnB l names) (mnS l names w) (w : Int) = true := by
 have h1 : bksB (mnB l names) (ixsN names) = true := by
  simp only [bksB, List.all_eq_true, List.mem_range, Bool.and_eq_true, decide_eq_true_eq]
  intro i hi
  have hk : i < (ixsN names).length := by rw [← z7t l names]; exact hi
  have e1 : (mnB l names).getD i [] = z0k l ((ixsN names)[i] : Int) := by simp [mnB, List.getD, List.getElem?_eq_getElem hk]
  have e2 : (ixsN names).getD i 0 = (ixsN names)[i] := by simp [List.getD, List.getElem?_eq_getElem hk]
  rw [e1, e2, z8s]
  exact ⟨wh.bucket_ok h, rfl⟩
 have h2 : ((mnS l names w).all fun x => decide ((x.length : Int) = (w : Int))) = true := by
  rw [List.all_eq_true]
  intro x hx
  have := zax hw.2 8 0 _ x hx
  exact decide_eq_true (by omega)
 unfold z15
 rw [hn, h1, h2, z1b.2 (show (1 : Int) ≤ (w : Int) ∧ (w : Int) ≤ 32 by omega), decide_eq_true (z7t l names), decide_eq_true (show (mnS l names w).length = z1e 8 (ixsN names) from z7q l w 8 0 _)]
 rfl
end Go.Proofs.YtfjbinbpgdiafaaGreatDoor
namespace Go.Proofs.YtfjbinbpgdiafaaGreatDoor
set_option linter.unusedVariables false
set_option linter.unusedSimpArgs false
set_option linter.unusedSectionVars false
open Go.RowKit Pl
def bkH (w : Nat) (b : List Lf) : Bs := cutB (z0B b) w
def hs1 (w p : Nat) (h s : Bs) : Bs := if p % 2 = 0 then z1t 3 [h, s] w else z1t 3 [s, h] w
def mH (w : Nat) : List Nat → List Bs → List Bs → List Bs × List Bs
 | p :: q :: L, h :: h2 :: H, S => if p % 2 = 0 ∧ q = p + 1 then (z1t 3 [h, h2] w :: (mH w L H S).1, (mH w L H S).2) else (hs1 w p h (S.headD []) :: (mH w (q :: L) (h2 :: H) S.tail).1, (mH w (q :: L) (h2 :: H) S.tail).2)
 | [p], h :: _, S => ([hs1 w p h (S.headD [])], S.tail)
 | _, _, S => ([], S)
def mAll (w : Nat) : Nat → List Nat → List Bs → List Bs → List Bs × List Bs
 | 0, _, H, S => (H, S)
 | n + 1, L, H, S => mAll w n (lvUp L) (mH w L H S).1 (mH w L H S).2
def z9l (names : List Bs) (bks : List (List Lf)) (sides : List Bs) (w : Int) : Bs := bif z15 names bks sides w then (mAll w.toNat 8 (ixsN names) (bks.map (bkH w.toNat)) sides).1.headD [] else []
theorem z6y (names : List Bs) (bks : List (List Lf)) (sides : List Bs) (w : Int) : ∃ RT, z9l names bks sides w = RT ∧ (z15 names bks sides w = false → RT = []) ∧ (z15 names bks sides w = true → RT = (mAll w.toNat 8 (ixsN names) (bks.map (bkH w.toNat)) sides).1.headD []) :=
 ⟨_, rfl, fun h => by rw [z9l, h]; rfl, fun h => by rw [z9l, h]; rfl⟩
theorem zay {α : Type} {l : List α} {k : Nat} (h : k + 1 < l.length) : l.drop k = l[k] :: l[k + 1] :: l.drop (k + 2) := by
 rw [List.drop_eq_getElem_cons (by omega), List.drop_eq_getElem_cons h]
theorem zey (w : Nat) (H S : List Bs) : mH w [] H S = ([], S) := by cases H <;> rfl
theorem zd1 {w : Nat} {L : List Nat} {H S : List Bs} {k : Nat} (h : k + 1 < L.length) (hh : k + 1 < H.length) (h0 : L[k] % 2 = 0) (h1 : L[k + 1] = L[k] + 1) :
 mH w (L.drop k) (H.drop k) S = (z1t 3 [H[k], H[k + 1]] w :: (mH w (L.drop (k + 2)) (H.drop (k + 2)) S).1, (mH w (L.drop (k + 2)) (H.drop (k + 2)) S).2) := by
 rw [zay h, zay hh, mH, if_pos ⟨h0, h1⟩]
theorem zaz {w : Nat} {L : List Nat} {H S : List Bs} {s : Bs} {k : Nat} (h : k < L.length) (e : H.length = L.length) (hn : ∀ h2 : k + 1 < L.length, ¬ (L[k] % 2 = 0 ∧ L[k + 1] = L[k] + 1)) :
 mH w (L.drop k) (H.drop k) (s :: S) = (hs1 w L[k] H[k] s :: (mH w (L.drop (k + 1)) (H.drop (k + 1)) S).1, (mH w (L.drop (k + 1)) (H.drop (k + 1)) S).2) := by
 by_cases h2 : k + 1 < L.length
 ·rw [zay h2, zay (l := H) (by omega), mH, if_neg (hn h2), List.drop_eq_getElem_cons h2, List.drop_eq_getElem_cons (l := H) (i := k + 1) (by omega)]
  rfl
 ·rw [List.drop_eq_getElem_cons h, List.drop_eq_getElem_cons (l := H) (i := k) (by omega), List.drop_of_length_le (l := L) (by omega), List.drop_of_length_le (l := H) (by omega), mH]
  rfl
end Go.Proofs.YtfjbinbpgdiafaaGreatDoor
