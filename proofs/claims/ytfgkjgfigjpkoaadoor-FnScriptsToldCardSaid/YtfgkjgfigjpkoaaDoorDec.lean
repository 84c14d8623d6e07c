/- Functions by content: numbers of any size, and bytes, written out. -/
import Derived.Lib.ItoaLen
import Derived.Test.YtfgkjgfigjpkoaaDoorIto
import Derived.Test.YtfgkjgfigjpkoaaDoorFa
namespace Go.Proofs.YtfgkjgfigjpkoaaDoor
set_option maxRecDepth 100000
set_option maxHeartbeats 2000000
set_option linter.unusedVariables false
set_option linter.unusedSimpArgs false
set_option linter.unusedSectionVars false
open Go.RowKit Pl
def decM (n : Nat) : Bs := if n = 0 then [48] else decG n []
theorem z9K (n : Nat) : ∀ out : Bs, n ≠ 0 → decG n out = Lib.decDigits n ++ out := by
 induction n using Nat.strongRecOn with
 | ind n ih =>
   intro out h
   rw [z5i h]
   by_cases h1 : n < 10
   ·rw [show n / 10 = 0 by omega, z5h, Lib.decDigits_one h1, show n % 10 = n by omega]
    rfl
   ·rw [ih (n / 10) (by omega) _ (by omega)]
    conv => rhs; rw [Lib.decDigits, dif_neg h1]
    simp only [List.append_assoc, List.cons_append, List.nil_append]
theorem z2R (n : Nat) : Lib.decDigits n = decM n := by
 unfold decM
 by_cases h : n = 0
 ·subst h
  rw [if_pos rfl, Lib.decDigits_one (by omega)]
  rfl
 ·rw [if_neg h, z9K n [] h, List.append_nil]
def cntB (n : Int) : Bs := decM n.toNat
theorem z9L {n : Int} (h : 0 ≤ n) : Lib.itoa n = cntB n := by
 rw [Lib.itoa, if_neg (by omega), z2R]
 rfl
theorem z9M (n : Int) (h : n ≤ 9223372036854775807) : (cntB n).length ≤ 21 := by
 by_cases h0 : 0 ≤ n
 ·rw [← z9L h0]
  exact Lib.itoa_length_le n (by omega) h
 ·rw [cntB, show n.toNat = 0 by omega]
  simp [decM]
theorem z8y {m l : Nat} (hm : m ≠ 0) (h : m * 10 ^ l ≤ 9223372036854775807) : l ≤ 18 := by
 rcases Nat.lt_or_ge l 19 with h1 | h1
 ·omega
 ·have h2 : 10 ^ 19 ≤ 10 ^ l := Nat.pow_le_pow_right (by omega) h1
  have h3 : 1 * 10 ^ l ≤ m * 10 ^ l := Nat.mul_le_mul_right _ (by omega)
  omega
theorem z9N {m l : Nat} (h : m * 10 ^ l ≤ 9223372036854775807) : m / 10 * 10 ^ (l + 1) ≤ 9223372036854775807 := by
 have h1 : m / 10 * 10 ≤ m := by omega
 have h2 : m / 10 * 10 * 10 ^ l ≤ m * 10 ^ l := Nat.mul_le_mul_right _ h1
 rw [Nat.pow_succ, Nat.mul_comm (10 ^ l) 10, ← Nat.mul_assoc]
 omega
def figB (d : Nat) : UInt8 := if d < 10 then UInt8.ofNat (48 + d) else UInt8.ofNat (97 + d - 10)
section
attribute [local irreducible] z0t z0u z0C AnsP LeP
theorem c_figM (d : Nat) (h : d < 16) : CT Tryd.prog 36 [] [.int .i64 (d : Int)] (.int .u8 ((figB d).toNat : Int)) [] := by
 refine z0d z13 1 rfl Tryd.func36 rfl rfl rfl ?_
 unfold figB
 by_cases h1 : d < 10
 ·rw [if_pos h1]
  repeat ((try conv => whnf); first | (refine z1O (by omega) ?_) | (refine w_u8 ?_) | (refine stpQ ?_))
  (refine z09 (by rfl) ?_ ?_ (by rfl)) <;> (repeat' (first | (exact eqA) | (refine And.intro ?_ ?_) | ((fail_if_success (with_reducible (show _ = _))); (show _ = _))))
 ·rw [if_neg h1]
  repeat ((try conv => whnf); first | (refine z1O (by omega) ?_) | (refine w_u8 ?_) | (refine stpQ ?_))
  (refine z09 (by rfl) ?_ ?_ (by rfl)) <;> (repeat' (first | (exact eqA) | (refine And.intro ?_ ?_) | ((fail_if_success (with_reducible (show _ = _))); (show _ = _))))
theorem z0i (n : Nat) (hn : n ≤ 9223372036854775807) : CT Tryd.prog 22 [] [.int .i64 (n : Int)] (.str (decM n)) [] := by
 refine z0d z13 1 rfl Tryd.func22 rfl rfl rfl ?_
 unfold decM
 by_cases h0 : n = 0
 ·subst h0
  repeat ((try conv => whnf); first | (refine stpQ ?_))
  (refine z09 (by rfl) ?_ ?_ (by rfl)) <;> (repeat' (first | (exact eqA) | (refine And.intro ?_ ?_) | ((fail_if_success (with_reducible (show _ = _))); (show _ = _)))) <;> rfl
 ·rw [if_neg h0]
  repeat ((try conv => whnf); first | (refine stpQ ?_))
  refine z0A 0 ⟨[(3, .bool false), (4, .str (decG n []))], [], 2⟩ (Nat × Bs) (fun x => ⟨[(0, .int .i64 (x.1 : Int)), (3, .bool false), (4, .str x.2)], [], 2⟩) (fun x => decG x.1 x.2 = decG n [] ∧ x.1 * 10 ^ x.2.length ≤ 9223372036854775807) (fun x => x.1) (n, []) ⟨rfl, by simpa using hn⟩ ?_ ?_ ?_
  ·(refine z0a (by rfl) ?_ ?_) <;> (repeat' (first | (exact eqA) | (refine And.intro ?_ ?_) | ((fail_if_success (with_reducible (show _ = _))); (show _ = _)))) <;> first | rfl | (exact decide_eq_false (by omega)) | decide
  ·intro x hx
   obtain ⟨m, out⟩ := x
   have h1 : decG m out = decG n [] := hx.1
   have h2 : m * 10 ^ out.length ≤ 9223372036854775807 := hx.2
   clear hx
   by_cases hm : m = 0
   ·subst hm
    rw [z5h] at h1
    repeat ((try conv => whnf); first | (refine stpQ ?_))
    (refine z0a (by rfl) ?_ ?_) <;> (repeat' (first | (exact eqA) | (refine And.intro ?_ ?_) | ((fail_if_success (with_reducible (show _ = _))); (show _ = _)))) <;> exact h1
   ·have hd : m / 10 < m := Nat.div_lt_self (by omega) (by omega)
    have hl := z8y hm h2
    have hm9 : m ≤ 9223372036854775807 := by
     have : m * 1 ≤ m * 10 ^ out.length := Nat.mul_le_mul_left _ (Nat.pos_of_ne_zero (by simp))
     omega
    have h3 := z9N h2
    clear h2
    have cf := c_figM (m % 10) (by omega)
    rw [figB, if_pos (Nat.mod_lt _ (by decide))] at cf
    repeat ((try conv => whnf); first | (refine z16 (n := nat_lit 10) ?_) | (refine ccA ([]) (cf) ?_) | (refine z5j (n := nat_lit 10) (by omega) ?_) | (refine Exists.intro [UInt8.ofNat (48 + m % 10)] (And.intro rfl ?_)) | (refine And.intro (by simp only [List.length_cons, List.length_nil]; omega) ?_) | (refine stpQ ?_))
    refine ⟨(m / 10, UInt8.ofNat (48 + m % 10) :: out), ⟨by show decG (m / 10) _ = _; rw [← h1, z5i hm], h3⟩, hd, ?_⟩
    (refine z0a (by rfl) ?_ ?_) <;> (repeat' (first | (exact eqA) | (refine And.intro ?_ ?_) | ((fail_if_success (with_reducible (show _ = _))); (show _ = _))))
    rfl
  ·generalize decG n [] = o
   repeat ((try conv => whnf); first | (refine stpQ ?_))
   (refine z09 (by rfl) ?_ ?_ (by rfl)) <;> (repeat' (first | (exact eqA) | (refine And.intro ?_ ?_) | ((fail_if_success (with_reducible (show _ = _))); (show _ = _))))
end
end Go.Proofs.YtfgkjgfigjpkoaaDoor
