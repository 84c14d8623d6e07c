/- Functions by content: rows of strings. Functions by content: proofs are read, by the program and by the reference. -/
import Derived.Test.YtgmbkbggnlponaaGreatDoorFb
namespace Go.Proofs.YtgmbkbggnlponaaGreatDoor
set_option linter.unusedVariables false
set_option linter.unusedSimpArgs false
set_option linter.unusedSectionVars false
open Go.RowKit Pl
attribute [local irreducible] z0t z0u z0y AnsP LeP
theorem z0C {k : Nat} (l : List Lf) : ownE (.row k (lvE l)) := by
 intro e he c hc
 simp only [lvE, List.mem_map] at he
 obtain ⟨x, _, rfl⟩ := he
 simp only [List.mem_cons, List.not_mem_nil, or_false] at hc
 rcases hc with rfl | rfl <;> trivial
theorem z0q {k : Nat} (l : List Bs) : ownE (.row k (strE l)) := by
 intro e he c hc
 simp only [strE, List.mem_map] at he
 obtain ⟨x, _, rfl⟩ := he
 simp only [List.mem_cons, List.not_mem_nil, or_false] at hc
 subst hc; trivial
def sAt (l : List Bs) (k : Nat) : Bs := l.getD k []
theorem s_at {l : List Bs} {k : Nat} (h : k < l.length) : sAt l k = l[k] := by simp [sAt, List.getD, List.getElem?_eq_getElem h]
theorem s_get {l : List Bs} {k : Nat} (h : k < l.length) : (strE l)[k]? = some [.str (sAt l k)] := zf0 h
theorem zh9 (l : List Bs) (k : Nat) (h : k < l.length) : l.take (k + 1) = l.take k ++ [sAt l k] := by
 rw [List.take_add_one, List.getElem?_eq_getElem h, s_at h]; rfl
end Go.Proofs.YtgmbkbggnlponaaGreatDoor
namespace Go.Proofs.YtgmbkbggnlponaaGreatDoor
set_option maxRecDepth 100000
set_option maxHeartbeats 1000000
set_option linter.unusedVariables false
set_option linter.unusedSimpArgs false
set_option linter.unusedSectionVars false
open Go.RowKit Pl
attribute [local irreducible] z0t z0u z0y AnsP LeP
theorem z3L {sh : Sh} {t : Bs} (hs : ∀ p b, p ≤ t.length → (sh p b).2.1 ≤ t.length ∧ (sh p b).1.length ≤ 20000) : ∀ (n p : Nat) (b : Bool), p ≤ t.length → (z0V sh n p b).1.length ≤ n ∧ ∀ x ∈ (z0V sh n p b).1, x.1.length ≤ 20000 ∧ x.2.length ≤ 20000
 | 0, p, b, _ => by simp [z0V]
 | n + 1, p, true, _ => by simp [z0V]
 | n + 1, p, false, hp => by
   have a := hs p false hp
   have b := hs _ (sh p false).2.2 a.1
   have ih := z3L hs n _ (sh (sh p false).2.1 (sh p false).2.2).2.2 b.1
   refine ⟨by simp only [z0V, List.length_cons]; omega, fun x hx => ?_⟩
   simp only [z0V, List.mem_cons] at hx
   rcases hx with rfl | hx
   ·exact ⟨a.2, b.2⟩
   ·exact ih.2 x hx
theorem sml_of {l : List Lf} (h1 : (l.length : Int) ≤ 1000) (h2 : ∀ x ∈ l, x.1.length ≤ 20000 ∧ x.2.length ≤ 20000) : Sml l := by
 refine ⟨h1, fun i => ?_⟩
 rcases Nat.lt_or_ge i l.length with hl | hl
 ·have := h2 _ (List.getElem_mem hl)
  rw [z6C hl]; omega
 ·simp [lfAt, List.getD, List.getElem?_eq_none hl]
theorem zbr {t : Bs} {p : Nat} {b : Bool} (hp : p ≤ t.length) : Sml (z2m t p b).1 := by
 have h := z3L (sh := z1x t) (fun p b hp => z2t hp) (min (numS t p b).1 30) _ (numS t p b).2.2 (z4l (bad := b) hp).1
 exact sml_of (by have := h.1; simp only [z2m]; omega) h.2
def z3b (t : Bs) (p : Nat) (b : Bool) (w : Nat) : (List Lf × List Bs) × Nat × Bool :=
 let A := z2a t p b
 let B := z2p t A.2.1 A.2.2
 if 8 < B.1 then (([], []), B.2.1, true) else
  let C := z20 t w B.1 B.2.1 B.2.2
  ((A.1, C.1), C.2.1, C.2.2)
theorem zdv (t : Bs) (w : Nat) : z31 t w = if z3i (z3b t 0 false w).2.2 (z3b t 0 false w).2.1 t.length = true then some (z3b t 0 false w).1 else none := by
 simp only [z31, z3b]
 split
 ·simp [z3i]
 ·rfl
def HsAt (t : Bs) (w : Nat) (R : List Bs × Nat × Bool) (n : Nat) (s : List Bs) (q : Nat) (b : Bool) : Prop := R = (s ++ (z20 t w n q b).1, (z20 t w n q b).2)
theorem HsAt.step {t : Bs} {w : Nat} {R : List Bs × Nat × Bool} {n : Nat} {s : List Bs} {q : Nat} {b : Bool} (h : HsAt t w R (n + 1) s q b) : HsAt t w R n (s ++ [(z0p t q b w).1]) (z0p t q b w).2.1 (z0p t q b w).2.2 := by
 unfold HsAt at h ⊢; rw [h, z20]; simp
theorem z4V {t : Bs} {w : Nat} : ∀ {n p : Nat} {b : Bool}, p ≤ t.length → (z20 t w n p b).2.1 ≤ t.length
 | 0, p, b, h => h
 | n + 1, p, b, h => by
   show (z20 t w n (z0p t p b w).2.1 (z0p t p b w).2.2).2.1 ≤ _
   exact z4V (z41 h)
theorem z4W {t : Bs} {w : Nat} : ∀ {n p : Nat} {b : Bool}, (z20 t w n p b).1.length = n
 | 0, p, b => rfl
 | n + 1, p, b => by simp [z20, z4W]
theorem z1W (t : Bs) (p : Nat) (b : Bool) (n w : Nat) (ht : (t.length : Int) ≤ 1000000000) (hp : p ≤ t.length) (hn : (n : Int) ≤ 1000000) : CT Tryz.prog 39 [fldB t p b] [.ptr 1 0 0, .int .i64 (n : Int), .int .i64 (w : Int)] (.ref 2) [fldB t (z20 t w n p b).2.1 (z20 t w n p b).2.2, .row 1 (strE (z20 t w n p b).1)] := by
 generalize hR : z20 t w n p b = R
 refine z01 z0m 2 rfl Tryz.func39 rfl rfl rfl ?_
 repeat ((try conv => whnf); first | (refine stpQ ?_))
 refine z0S (Nat × Nat × List Bs × Bool) (fun ⟨k, q, s, bd⟩ => ⟨[(0, .ptr 1 0 0), (2, .int .i64 (w : Int)), (7, .ref 2), (8, .int .i64 (n : Int)), (9, .int .i64 (k : Int))], [(1, some (fldB t q bd)), (2, some (.row 1 (strE s)))], 3⟩) (fun ⟨k, q, s, bd⟩ => k ≤ n ∧ s.length = k ∧ HsAt t w R (n - k) s q bd ∧ q ≤ t.length) (fun ⟨k, q, s, bd⟩ => n - k) (0, p, [], b) ⟨by omega, rfl, by rw [← hR]; rfl, hp⟩ ?_ ?_
 ·(refine z02 (by rfl) ?_ ?_) <;> (repeat' (first | (exact eqA) | (refine shE ?_) | (refine And.intro ?_ ?_))) <;> first | rfl | decide
 ·rintro ⟨k, q, s, bd⟩ ⟨hk, hl, hat, hq⟩
  have hll := z0c s
  by_cases hlt : k < n
  ·obtain ⟨m, hm⟩ : ∃ m, n - k = m + 1 := ⟨n - k - 1, by omega⟩
   rw [hm] at hat
   have c1 := z6M t q bd w ht hq
   have hst := hat.step
   have hle := z41 (n := w) (b := bd) hq
   repeat ((try conv => whnf); first | (refine ccB ([1]) (c1) ?_) | (refine And.intro (by simp [z0c]; omega) ?_) | (refine stpQ ?_))
   refine ⟨(k + 1, (z0p t q bd w).2.1, s ++ [(z0p t q bd w).1], (z0p t q bd w).2.2), ⟨by omega, by simp [hl], by rw [show n - (k + 1) = m by omega]; exact hst, hle⟩, (by show n - (k + 1) < n - k; omega), ?_⟩
   (refine z02 (by rfl) ?_ ?_) <;> (repeat' (first | (exact eqA) | (refine shE ?_) | (refine And.intro ?_ ?_)))
   all_goals (simp [strE]; done)
  ·have hkn : n - k = 0 := by omega
   rw [hkn] at hat
   have e : R = (s, q, bd) := by rw [hat]; simp [z20]
   rw [e]
   repeat ((try conv => whnf); first | (refine stpQ ?_))
   (refine z00 (by rfl) ?_ ?_ (by rfl)) <;> (repeat' (first | (exact eqA) | (refine shE ?_) | (refine And.intro ?_ ?_)))
theorem zhZ (t : Bs) (p : Nat) (b : Bool) (w : Nat) (ht : (t.length : Int) ≤ 1000000000) (hp : p ≤ t.length) : CT Tryz.prog 96 [fldB t p b] [.ptr 1 0 0, .int .i64 (w : Int)] (.agg [.ref 2, .ref 3]) [fldB t (z3b t p b w).2.1 (z3b t p b w).2.2, .row 2 (lvE (z3b t p b w).1.1), .row 1 (strE (z3b t p b w).1.2)] := by
 have cA := zge t p b ht hp
 have hle := z7T (b := b) hp
 unfold z3b
 rcases hA : z2a t p b with ⟨l, p1, b1⟩
 rw [hA] at cA hle
 simp only at cA hle ⊢
 have cB := zdj t p1 b1 ht hle
 have hle2 := z2W (bad := b1) hle
 rcases hB : z2p t p1 b1 with ⟨n, p2, b2⟩
 rw [hB] at cB hle2
 simp only at cB hle2 ⊢
 refine z01 z0m 2 rfl Tryz.func96 rfl rfl rfl ?_
 by_cases h8 : 8 < n
 ·rw [if_pos h8]
  repeat ((try conv => whnf); first | (refine ccB ([1]) (cA) ?_) | (refine ccB ([1]) (cB) ?_) | (refine stpQ ?_))
  (refine z00 (by rfl) ?_ ?_ (by rfl)) <;> (repeat' (first | (exact eqA) | (refine shE ?_) | (refine And.intro ?_ ?_))) <;> first | rfl | decide
 ·rw [if_neg h8]
  have cC := z1W t p2 b2 n w ht hle2.1 (by omega)
  repeat ((try conv => whnf); first | (refine ccB ([1]) (cA) ?_) | (refine ccB ([1]) (cB) ?_) | (refine ccB ([1]) (cC) ?_) | (refine stpQ ?_))
  (refine z00 (by rfl) ?_ ?_ (by rfl)) <;> (repeat' (first | (exact eqA) | (refine shE ?_) | (refine And.intro ?_ ?_))) <;> first | rfl | decide
theorem z8Y (w : Int) : CT Tryz.prog 95 [] [.int .i64 w] (.bool (inB w 1 32)) [] := by
 refine z01 z0m 1 rfl Tryz.func95 rfl rfl rfl ?_
 repeat ((try conv => whnf); first | (refine ccA ([]) (c_in _ _ _) ?_) | (refine stpQ ?_))
 (refine z00 (by rfl) ?_ ?_ (by rfl)) <;> repeat' (first | (exact eqA) | (refine shE ?_) | (refine And.intro ?_ ?_))
def z4p (o : Option (List Lf × List Bs)) : List Lf × List Bs := o.getD ([], [])
def z3w (t : Bs) (w : Int) : Option (List Lf × List Bs) := bif inB w 1 32 then z31 t w.toNat else none
theorem zbs (t : Bs) (w : Int) (ht : (t.length : Int) ≤ 1000000000) : CT Tryz.prog 36 [] [.str t, .int .i64 w] (.tup [.agg [.ref 1, .ref 2], .bool (z3w t w).isSome]) [.row 2 (lvE (z4p (z3w t w)).1), .row 1 (strE (z4p (z3w t w)).2)] := by
 refine z01 z0m 1 rfl Tryz.func36 rfl rfl rfl ?_
 have cW := z8Y w
 cases hw : inB w 1 32
 ·rw [hw] at cW
  have e : z3w t w = none := by rw [z3w, hw]; rfl
  rw [e]
  repeat ((try conv => whnf); first | (refine ccA ([]) (cW) ?_) | (refine stpQ ?_))
  (refine z00 (by rfl) ?_ ?_ (by rfl)) <;> (repeat' (first | (exact eqA) | (refine shE ?_) | (refine And.intro ?_ ?_))) <;> first | rfl | decide
 ·rw [hw] at cW
  have hw2 := z0r.1 hw
  obtain ⟨n, rfl⟩ : ∃ n : Nat, w = n := ⟨w.toNat, by omega⟩
  have cP := zhZ t 0 false n ht (by omega)
  have e : z3w t (n : Int) = if z3i (z3b t 0 false n).2.2 (z3b t 0 false n).2.1 t.length = true then some (z3b t 0 false n).1 else none := by
   rw [z3w, hw, Int.toNat_natCast]; exact zdv t n
  rw [e]
  generalize z3b t 0 false n = R at cP ⊢
  obtain ⟨⟨l, s⟩, q, bd⟩ := R
  simp only at cP ⊢
  have cD := z7X t q bd
  cases hd : z3i bd q t.length
  ·rw [hd] at cD
   repeat ((try conv => whnf); first | (refine ccA ([]) (cW) ?_) | (refine ccB ([_]) (cP) ?_) | (refine ccB ([_]) (cD) ?_) | (refine stpQ ?_))
   (refine z00 (by rfl) ?_ ?_ (by rfl)) <;> (repeat' (first | (exact eqA) | (refine shE ?_) | (refine And.intro ?_ ?_))) <;> first | rfl | decide
  ·rw [hd] at cD
   repeat ((try conv => whnf); first | (refine ccA ([]) (cW) ?_) | (refine ccB ([_]) (cP) ?_) | (refine ccB ([_]) (cD) ?_) | (refine stpQ ?_))
   (refine z00 (by rfl) ?_ ?_ (by rfl)) <;> (repeat' (first | (exact eqA) | (refine shE ?_) | (refine And.intro ?_ ?_))) <;> first | rfl | decide
theorem z83 (s : List Bs) (w : Int) (hs : (s.length : Int) ≤ 1000000) : CT Tryz.prog 59 [] [.sl 1 (strE s), .int .i64 w] (.bool (wideB s w)) [] := by
 have hlen := z0c s
 refine z01 z0m 1 rfl Tryz.func59 rfl rfl rfl ?_
 repeat ((try conv => whnf); first | (refine stpQ ?_))
 refine z0S Nat (fun k => ⟨[(0, .sl 1 (strE s)), (1, .int .i64 w), (5, .int .i64 (k : Int))], [], 2⟩) (fun k => k ≤ s.length ∧ ∀ x ∈ s.take k, (x.length : Int) = w) (fun k => s.length - k) 0 ⟨by omega, by simp⟩ ?_ ?_
 ·(refine z02 (by rfl) ?_ ?_) <;> repeat' (first | (exact eqA) | (refine shE ?_) | (refine And.intro ?_ ?_))
 ·rintro k ⟨hk, hp⟩
  by_cases hlt : k < s.length
  ·repeat ((try conv => whnf); first | (refine i_at (s_get hlt) ?_) | (refine stpQ ?_))
   ((try conv => whnf); first | (refine cb_d (fun h => ?_) (fun h => ?_)) | (refine cb_n (fun h => ?_) (fun h => ?_)) | (refine cb (fun h => ?_) (fun h => ?_)))
   ·have e : wideB s w = false := by
     have : ¬ (∀ x ∈ s, (x.length : Int) = w) := fun hh => h (by rw [s_at hlt]; exact hh _ (List.getElem_mem hlt))
     rw [wideB, Bool.and_eq_false_iff]
     left
     rw [List.all_eq_false]
     exact ⟨s[k], List.getElem_mem hlt, by rw [s_at hlt] at h; simpa using h⟩
    rw [e]
    repeat ((try conv => whnf); first | (refine stpQ ?_))
    (refine z00 (by rfl) ?_ ?_ (by rfl)) <;> repeat' (first | (exact eqA) | (refine shE ?_) | (refine And.intro ?_ ?_))
   ·repeat ((try conv => whnf); first | (refine stpQ ?_))
    refine ⟨k + 1, ⟨by omega, fun x hx => ?_⟩, by omega, ?_⟩
    ·rw [zh9 s k hlt, List.mem_append, List.mem_singleton] at hx
     rcases hx with hx | rfl
     ·exact hp x hx
     ·exact h
    ·(refine z02 (by rfl) ?_ ?_) <;> repeat' (first | (exact eqA) | (refine shE ?_) | (refine And.intro ?_ ?_))
  ·obtain rfl : k = s.length := by omega
   rw [List.take_length] at hp
   have e : wideB s w = inB w 1 32 := by
    rw [wideB, List.all_eq_true.2 (fun x hx => by simpa using hp x hx), Bool.true_and]
   rw [e]
   repeat ((try conv => whnf); first | (refine ccA ([]) (z10 _ _ _) ?_) | (refine stpQ ?_))
   (refine z00 (by rfl) ?_ ?_ (by rfl)) <;> repeat' (first | (exact eqA) | (refine shE ?_) | (refine And.intro ?_ ?_))
theorem flat32 {s : List Bs} {w : Int} (hw : w ≤ 32) (h : ∀ x ∈ s, (x.length : Int) = w) : (s.flatten.length : Int) ≤ 32 * s.length := by
 induction s with
 | nil => simp
 | cons x s ih =>
   have h1 := h x (by simp)
   have h2 := ih fun y hy => h y (by simp [hy])
   simp only [List.flatten_cons, List.length_append, List.length_cons]
   omega
theorem z7x {l : List Lf} (h : Sml l) (hn : (l.length : Int) ≤ 100) : ((z0z l).length : Int) ≤ 400000000 := by
 have h1 := z8R h l.length
 rw [List.take_length] at h1
 have h2 := z0O (n := l.length) (by omega)
 rw [z0z, List.length_append]
 omega
theorem z3M (l : List Lf) (s : List Bs) (w : Int) (hl : Sml l) (hl2 : (l.length : Int) ≤ 100) (hs : (s.length : Int) ≤ 1000000) : CT Tryz.prog 90 [] [.agg [.sl 2 (lvE l), .sl 1 (strE s)], .int .i64 w] (.tup [.str (bif z0J l s w then z0l l s else []), .bool (z0J l s w)]) [] := by
 have hlen := z0c s
 have cL := z8U l hl hl.fit
 have cW := z83 s w hs
 refine z01 z0m 1 rfl Tryz.func90 rfl rfl rfl ?_
 cases h1 : leavesOk l
 ·have e : z0J l s w = false := by simp [z0J, h1]
  rw [h1] at cL
  rw [e]
  repeat ((try conv => whnf); first | (refine ccA ([]) (cL) ?_) | (refine ccA ([]) (cW) ?_) | (refine Exists.intro s.length (And.intro hlen ?_)) | (refine stpQ ?_))
  (refine z00 (by rfl) ?_ ?_ (by rfl)) <;> (repeat' (first | (exact eqA) | (refine shE ?_) | (refine And.intro ?_ ?_))) <;> rfl
 ·rw [h1, cond_true] at cL
  by_cases h8 : s.length ≤ 8
  ·cases h2 : wideB s w
   ·have e : z0J l s w = false := by simp [z0J, h2]
    rw [h2] at cW
    rw [e]
    repeat ((try conv => whnf); first | (refine ccA ([]) (cL) ?_) | (refine ccA ([]) (cW) ?_) | (refine Exists.intro s.length (And.intro hlen ?_)) | (refine stpQ ?_))
    (refine z00 (by rfl) ?_ ?_ (by rfl)) <;> (repeat' (first | (exact eqA) | (refine shE ?_) | (refine And.intro ?_ ?_))) <;> rfl
   ·have e : z0J l s w = true := by simp [z0J, h1, h2, h8]
    rw [h2] at cW
    rw [e]
    obtain ⟨_, _, hw3, _, hw5⟩ := z1o.1 e
    have htl := z7x hl hl2
    have hv := z0O (n := s.length) (by omega)
    repeat ((try conv => whnf); first | (refine ccA ([]) (cL) ?_) | (refine ccA ([]) (cW) ?_) | (refine Exists.intro s.length (And.intro hlen ?_)) | (refine ccA ([]) (z2Z s.length (by omega)) ?_) | (refine And.intro (by simp only [List.length_append]; omega) ?_) | (refine stpQ ?_))
    refine z0S Nat (fun k => ⟨[(2, .ptr 1 0 0), (6, .str (z0z l ++ z0g s.length ++ (s.take k).flatten)), (8, .int .i64 (k : Int))], [(1, some (.box [.sl 2 (lvE l), .sl 1 (strE s)]))], 2⟩) (fun k => k ≤ s.length) (fun k => s.length - k) 0 (by omega) ?_ ?_
    ·(refine z02 (by rfl) ?_ ?_) <;> (repeat' (first | (exact eqA) | (refine shE ?_) | (refine And.intro ?_ ?_))) <;> first | decide | simp
    ·intro k hk
     have hfl := flat32 hw5 (s := s.take k) fun x hx => hw3 x (List.mem_of_mem_take hx)
     have hlk : (s.take k).length = k := by simp; omega
     by_cases hlt : k < s.length
     ·have hsk : ((sAt s k).length : Int) ≤ 32 := by
       rw [s_at hlt]
       have := hw3 _ (List.getElem_mem hlt)
       omega
      repeat ((try conv => whnf); first | (refine Exists.intro s.length (And.intro hlen ?_)) | (refine i_at (s_get hlt) ?_) | (refine And.intro (by simp only [List.length_append]; omega) ?_) | (refine stpQ ?_))
      refine ⟨k + 1, by omega, by omega, ?_⟩
      (refine z02 (by rfl) ?_ ?_) <;> (repeat' (first | (exact eqA) | (refine shE ?_) | (refine And.intro ?_ ?_)))
      rw [zh9 s k hlt]; simp
     ·obtain rfl : k = s.length := by omega
      repeat ((try conv => whnf); first | (refine Exists.intro s.length (And.intro hlen ?_)) | (refine stpQ ?_))
      (refine z00 (by rfl) ?_ ?_ (by rfl)) <;> (repeat' (first | (exact eqA) | (refine shE ?_) | (refine And.intro ?_ ?_)))
      rw [List.take_length, z0l]; simp
  ·have e : z0J l s w = false := by simp [z0J, h8]
   rw [e]
   repeat ((try conv => whnf); first | (refine ccA ([]) (cL) ?_) | (refine ccA ([]) (cW) ?_) | (refine Exists.intro s.length (And.intro hlen ?_)) | (refine stpQ ?_))
   (refine z00 (by rfl) ?_ ?_ (by rfl)) <;> (repeat' (first | (exact eqA) | (refine shE ?_) | (refine And.intro ?_ ?_))) <;> rfl
end Go.Proofs.YtgmbkbggnlponaaGreatDoor
