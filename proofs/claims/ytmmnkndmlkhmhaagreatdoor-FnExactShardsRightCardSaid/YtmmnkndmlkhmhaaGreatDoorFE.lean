/- Functions by content: numbers, strings and entries as bytes. -/
import Derived.Test.YtmmnkndmlkhmhaaGreatDoorFB
import Derived.Test.YtmmnkndmlkhmhaaGreatDoorPlainA
namespace Go.Proofs.YtmmnkndmlkhmhaaGreatDoor
open Go.RowKit Pl
set_option linter.unusedVariables false
set_option linter.unusedSimpArgs false
attribute [local irreducible] CondB CallP LoopW AnsP LeP

theorem w_quo {a n : Nat} {K : Int → Prop} (h : a ≤ 9223372036854775807) (hk : K ((a / n : Nat) : Int)) : ∃ r, r = IntKind.i64.wrap ((a : Int).tdiv (n : Int)) ∧ K r := by
  have e : (a : Int).tdiv (n : Int) = ((a / n : Nat) : Int) := Int.ofNat_tdiv a n
  have : a / n ≤ a := Nat.div_le_self _ _
  have h2 : ((a / n : Nat) : Int) ≤ 9223372036854775807 := by generalize a / n = x at *; omega
  have h3 : (0 : Int) ≤ ((a / n : Nat) : Int) := Int.natCast_nonneg _
  generalize a / n = x at *
  exact ⟨_, by rw [e, wrap_i64 (by omega) h2], hk⟩
theorem w_quon {a n : Nat} {K : Int → Prop} (h : a ≤ 9223372036854775807) (hk : K ((a / OfNat.ofNat n : Nat) : Int)) : ∃ r, r = IntKind.i64.wrap ((a : Int).tdiv (OfNat.ofNat n : Int)) ∧ K r := w_quo (n := OfNat.ofNat n) h hk
theorem r_remn {a n : Nat} {K : Int → Prop} (hk : K ((a % OfNat.ofNat n : Nat) : Int)) : ∃ r, r = (a : Int).tmod (OfNat.ofNat n : Int) ∧ K r :=
  ⟨_, (Int.ofNat_tmod a (OfNat.ofNat n)).symm, hk⟩
theorem wrap_u8 {n : Nat} : IntKind.u8.wrap (n : Int) = ((UInt8.ofNat n).toNat : Int) := by
  show (if (false && decide ((n : Int) % 2 ^ 8 ≥ 2 ^ (8 - 1))) = true then (n : Int) % 2 ^ 8 - 2 ^ 8 else (n : Int) % 2 ^ 8) = _
  simp
theorem w_u8 {n : Nat} {K : Int → Prop} (hk : K ((UInt8.ofNat n).toNat : Int)) : ∃ r, r = IntKind.u8.wrap (n : Int) ∧ K r := ⟨_, wrap_u8.symm, hk⟩
theorem bytesE_snoc (l : Bs) (b : UInt8) : bytesE l ++ [[.int .u8 (b.toNat : Int)]] = bytesE (l ++ [b]) := by simp [bytesE, byteE]
theorem bytesE_len (l : Bs) : (bytesE l).length = l.length := by simp [bytesE]
set_option maxRecDepth 100000 in
set_option maxHeartbeats 400000 in
theorem c_big (l : Bs) : CT Tryz.prog 11 [] [.sl 1 (bytesE l)] (.bool (decide ((1048576 : Int) < (l.length : Int)))) [] := by
  have hlen := bytesE_len l
  refine ct_intro tt_ok 1 rfl Tryz.func11 rfl rfl rfl ?_
  repeat ((try conv => whnf); first | (refine stpQ ?_))
  rw [← hlen]
  (refine ans_auto (by rfl) ?_ ?_ (by rfl)) <;> repeat' (first | (exact eqA) | (refine And.intro ?_ ?_) | ((fail_if_success (with_reducible (show _ = _))); (show _ = _)))
theorem w_addl {a n : Nat} {K : Int → Prop} (h : OfNat.ofNat n + a ≤ 9223372036854775807) (hk : K ((OfNat.ofNat n + a : Nat) : Int)) : ∃ r, r = IntKind.i64.wrap ((OfNat.ofNat n : Int) + (a : Int)) ∧ K r :=
  w_add (a := OfNat.ofNat n) h hk
set_option maxRecDepth 100000 in
set_option maxHeartbeats 400000 in
theorem c_varText (n : Nat) (hn : (n : Int) ≤ 2000000000) : CT Tryz.prog 76 [] [.int .i64 (n : Int)] (.str (varText n)) [] := by
  have hvl := varText_len hn
  refine ct_intro tt_ok 1 rfl Tryz.func76 rfl rfl rfl ?_
  repeat ((try conv => whnf); first | (refine stpQ ?_))
  refine loop_of (Nat × Bs) (fun ⟨m, out⟩ => ⟨[(0, .int .i64 (m : Int)), (3, .ref 1)], [(1, some (.row 1 (bytesE out)))], 2⟩) (fun ⟨m, out⟩ => out ++ varText m = varText n ∧ m ≤ n) (fun ⟨m, out⟩ => m) (n, []) ⟨rfl, Nat.le_refl _⟩ ?_ ?_
  · (refine le_auto (by rfl) ?_ ?_) <;> (repeat' (first | (exact eqA) | (refine And.intro ?_ ?_) | ((fail_if_success (with_reducible (show _ = _))); (show _ = _)))) <;> first | rfl | decide
  · rintro ⟨m, out⟩ ⟨h1, h2⟩
    have hol : out.length + (varText m).length ≤ 5 := by
      have := congrArg List.length h1
      rw [List.length_append] at this
      omega
    have hbl := bytesE_len out
    repeat ((try conv => whnf); first | (refine stpQ ?_))
    ((try conv => whnf); first | (refine cb_d (fun h => ?_) (fun h => ?_)) | (refine cb_n (fun h => ?_) (fun h => ?_)) | (refine cb (fun h => ?_) (fun h => ?_)))
    · repeat ((try conv => whnf); first | (refine r_remn ?_) | (refine w_quon (by omega) ?_) | (refine w_addl (by omega) ?_) | (refine w_u8 ?_) | (refine And.intro (by simp [bytesE_len]; omega) ?_) | (refine stpQ ?_))
      refine ⟨(m / 128, out ++ [UInt8.ofNat (128 + m % 128)]), ⟨?_, ?_⟩, ?_, ?_⟩
      · rw [← h1, varText_big (n := m) (by omega)]; simp
      · exact Nat.le_trans (Nat.div_le_self _ _) h2
      · exact Nat.div_lt_self (by omega) (by omega)
      · (refine le_auto (by rfl) ?_ ?_) <;> (repeat' (first | (exact eqA) | (refine And.intro ?_ ?_) | ((fail_if_success (with_reducible (show _ = _))); (show _ = _))))
        simp [bytesE, byteE]
        rfl
    · repeat ((try conv => whnf); first | (refine w_u8 ?_) | (refine And.intro (by simp [bytesE_len]; omega) ?_) | (refine Exists.intro (out ++ [UInt8.ofNat m]) (And.intro (by simp [bytesE, byteE]; first | done | fail) ?_)) | (refine stpQ ?_))
      rw [← h1, varText_small (n := m) (by omega)]
      (refine ans_auto (by rfl) ?_ ?_ (by rfl)) <;> repeat' (first | (exact eqA) | (refine And.intro ?_ ?_) | ((fail_if_success (with_reducible (show _ = _))); (show _ = _)))
theorem varTextL {n : Nat} (hn : (n : Int) ≤ 2000000000) : ((varText n).length : Int) ≤ 5 := by have := varText_len hn; omega
set_option maxRecDepth 100000 in
set_option maxHeartbeats 400000 in
theorem c_shortText (s : Bs) (hs : (s.length : Int) ≤ 1000000000) : CT Tryz.prog 77 [] [.str s] (.str (shortText s)) [] := by
  have hvl := varTextL (n := s.length) (by omega)
  refine ct_intro tt_ok 1 rfl Tryz.func77 rfl rfl rfl ?_
  repeat ((try conv => whnf); first | (refine ccA ([]) (c_varText s.length (by omega)) ?_) | (refine stpQ ?_))
  (refine ans_auto (by rfl) ?_ ?_ (by rfl)) <;> repeat' (first | (exact eqA) | (refine And.intro ?_ ?_) | ((fail_if_success (with_reducible (show _ = _))); (show _ = _)))
  rfl
theorem shortTextL {s : Bs} (hs : (s.length : Int) ≤ 1000000000) : ((shortText s).length : Int) ≤ (s.length : Int) + 5 := by have := shortText_len (l := s) (by omega); omega
def Sml (l : List Lf) : Prop := (l.length : Int) ≤ 1000 ∧ ∀ i, ((lfAt l i).1.length : Int) ≤ 1000000 ∧ ((lfAt l i).2.length : Int) ≤ 1000000
theorem flat_next {l : List Lf} {k : Nat} (h : k < l.length) : (l.take (k + 1)).flatMap lfText = (l.take k).flatMap lfText ++ (shortText (lfAt l k).1 ++ shortText (lfAt l k).2) := by
  rw [take_next l k h, List.flatMap_append]; simp [lfText]
theorem flat_len {l : List Lf} (h : Sml l) : ∀ k, (((l.take k).flatMap lfText).length : Int) ≤ 3000000 * k
  | 0 => by simp
  | k + 1 => by
    have ih := flat_len h k
    by_cases hk : k < l.length
    · rw [flat_next hk]
      have h1 := shortTextL (s := (lfAt l k).1) (by have := (h.2 k).1; omega)
      have h2 := shortTextL (s := (lfAt l k).2) (by have := (h.2 k).2; omega)
      have := h.2 k
      simp only [List.length_append]
      omega
    · rw [List.take_of_length_le (by omega)]
      rw [List.take_of_length_le (by omega)] at ih
      omega
set_option maxRecDepth 100000 in
set_option maxHeartbeats 400000 in
theorem c_leavesText (l : List Lf) (hl : Sml l) : CT Tryz.prog 78 [] [.sl 2 (lvE l)] (.str (leavesText l)) [] := by
  have hlen := lv_len l
  have hll := hl.1
  have hv := varTextL (n := l.length) (by omega)
  refine ct_intro tt_ok 1 rfl Tryz.func78 rfl rfl rfl ?_
  repeat ((try conv => whnf); first | (refine Exists.intro l.length (And.intro hlen ?_)) | (refine ccA ([]) (c_varText l.length (by omega)) ?_) | (refine stpQ ?_))
  refine loop_of Nat (fun k => ⟨[(3, .str (varText l.length ++ (l.take k).flatMap lfText)), (9, .sl 2 (lvE l)), (10, .int .i64 (l.length : Int)), (11, .int .i64 (k : Int))], [], 2⟩) (fun k => k ≤ l.length) (fun k => l.length - k) 0 (by omega) ?_ ?_
  · (refine le_auto (by rfl) ?_ ?_) <;> (repeat' (first | (exact eqA) | (refine And.intro ?_ ?_) | ((fail_if_success (with_reducible (show _ = _))); (show _ = _)))) <;> simp
  · intro k hk
    have hfl := flat_len hl k
    repeat ((try conv => whnf); first | (refine stpQ ?_))
    ((try conv => whnf); first | (refine cb_d (fun h => ?_) (fun h => ?_)) | (refine cb_n (fun h => ?_) (fun h => ?_)) | (refine cb (fun h => ?_) (fun h => ?_)))
    · have hk2 : k < l.length := by omega
      have hnx := flat_next hk2
      have h1 := shortTextL (s := (lfAt l k).1) (by have := (hl.2 k).1; omega)
      have h2 := shortTextL (s := (lfAt l k).2) (by have := (hl.2 k).2; omega)
      have h3 := hl.2 k
      repeat ((try conv => whnf); first | (refine i_at (lv_get hk2) ?_) | (refine ccA ([]) (c_shortText (lfAt l k).1 (by omega)) ?_) | (refine ccA ([]) (c_shortText (lfAt l k).2 (by omega)) ?_) | (refine And.intro (by simp only [List.length_append]; omega) ?_) | (refine stpQ ?_))
      refine ⟨k + 1, by omega, by omega, ?_⟩
      (refine le_auto (by rfl) ?_ ?_) <;> (repeat' (first | (exact eqA) | (refine And.intro ?_ ?_) | ((fail_if_success (with_reducible (show _ = _))); (show _ = _))))
      rw [hnx]; simp
    · obtain rfl : k = l.length := by omega
      repeat ((try conv => whnf); first | (refine stpQ ?_))
      (refine ans_auto (by rfl) ?_ ?_ (by rfl)) <;> repeat' (first | (exact eqA) | (refine And.intro ?_ ?_) | ((fail_if_success (with_reducible (show _ = _))); (show _ = _)))
      rw [List.take_length]; rfl
end Go.Proofs.YtmmnkndmlkhmhaaGreatDoor
