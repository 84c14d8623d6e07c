/- Functions by content: numbers of any size, and bytes, written out. -/
import Derived.Lib.ItoaLen
import Derived.Test.YtkgfidphcpklhaaDoorIto
import Derived.Test.YtkgfidphcpklhaaDoorFBE
namespace Go.Proofs.YtkgfidphcpklhaaDoor
open Go.RowKit Pl
set_option linter.unusedVariables false
set_option linter.unusedSimpArgs false

/-- The digits of a number. -/
def decM (n : Nat) : Bs := if n = 0 then [48] else decG n []
theorem decG_dig (n : Nat) : ∀ out : Bs, n ≠ 0 → decG n out = Lib.decDigits n ++ out := by
  induction n using Nat.strongRecOn with
  | ind n ih =>
    intro out h
    rw [decG_step h]
    by_cases h1 : n < 10
    · rw [show n / 10 = 0 by omega, decG_zero, Lib.decDigits_one h1, show n % 10 = n by omega]
      rfl
    · rw [ih (n / 10) (by omega) _ (by omega)]
      conv => rhs; rw [Lib.decDigits, dif_neg h1]
      simp only [List.append_assoc, List.cons_append, List.nil_append]
theorem decM_dig (n : Nat) : Lib.decDigits n = decM n := by
  unfold decM
  by_cases h : n = 0
  · subst h
    rw [if_pos rfl, Lib.decDigits_one (by omega)]
    rfl
  · rw [if_neg h, decG_dig n [] h, List.append_nil]
/-- A count: what is negative is 0. -/
def cntB (n : Int) : Bs := decM n.toNat
theorem itoa_cnt {n : Int} (h : 0 ≤ n) : Lib.itoa n = cntB n := by
  rw [Lib.itoa, if_neg (by omega), decM_dig]
  rfl
theorem cntB_len (n : Int) (h : n ≤ 9223372036854775807) : (cntB n).length ≤ 21 := by
  by_cases h0 : 0 ≤ n
  · rw [← itoa_cnt h0]
    exact Lib.itoa_length_le n (by omega) h
  · rw [cntB, show n.toNat = 0 by omega]
    simp [decM]
theorem pow_small {m l : Nat} (hm : m ≠ 0) (h : m * 10 ^ l ≤ 9223372036854775807) : l ≤ 18 := by
  rcases Nat.lt_or_ge l 19 with h1 | h1
  · omega
  · have h2 : 10 ^ 19 ≤ 10 ^ l := Nat.pow_le_pow_right (by omega) h1
    have h3 : 1 * 10 ^ l ≤ m * 10 ^ l := Nat.mul_le_mul_right _ (by omega)
    omega
theorem pow_next {m l : Nat} (h : m * 10 ^ l ≤ 9223372036854775807) : m / 10 * 10 ^ (l + 1) ≤ 9223372036854775807 := by
  have h1 : m / 10 * 10 ≤ m := by omega
  have h2 : m / 10 * 10 * 10 ^ l ≤ m * 10 ^ l := Nat.mul_le_mul_right _ h1
  rw [Nat.pow_succ, Nat.mul_comm (10 ^ l) 10, ← Nat.mul_assoc]
  omega
/-- A figure, up to 15. -/
def figB (d : Nat) : UInt8 := if d < 10 then UInt8.ofNat (48 + d) else UInt8.ofNat (97 + d - 10)
/-- Bytes as figures. -/
def hexS (l : Bs) : Bs := l.flatMap fun b => [figB (b.toNat / 16), figB (b.toNat % 16)]
theorem hexS_app (a b : Bs) : hexS (a ++ b) = hexS a ++ hexS b := by simp [hexS]
theorem hexS_len (l : Bs) : (hexS l).length = 2 * l.length := by
  induction l with
  | nil => rfl
  | cons b l ih =>
    rw [show b :: l = [b] ++ l from rfl, hexS_app, List.length_append, ih, List.length_append]
    simp [hexS]
    omega
theorem take_one {l : Bs} {k : Nat} (h : k < l.length) : l.take (k + 1) = l.take k ++ [l.getD k 0] := by
  rw [List.take_add_one, List.getElem?_eq_getElem h, List.getD, List.getElem?_eq_getElem h]
  rfl
set_option maxRecDepth 100000 in
theorem and15 (b : UInt8) : bits .and .u8 (b.toNat : Int) 15 = ((b.toNat % 16 : Nat) : Int) := by
  have h : ∀ k : Fin 256, bits .and .u8 ((UInt8.ofNat k.val).toNat : Int) 15 = (((UInt8.ofNat k.val).toNat % 16 : Nat) : Int) := by decide
  have h2 := h ⟨b.toNat, b.toNat_lt⟩
  simpa using h2
def hexD : Bs := [48, 49, 50, 51, 52, 53, 54, 55, 56, 57, 97, 98, 99, 100, 101, 102]
theorem hexD_at {d : Nat} (h : d < 16) : hexD.getD d 0 = figB d := by
  have : ∀ k : Fin 16, hexD.getD k.val 0 = figB k.val := by decide
  exact this ⟨d, h⟩
section
attribute [local irreducible] CondB CallP LoopW AnsP LeP
set_option maxRecDepth 100000 in
set_option maxHeartbeats 1000000 in
theorem c_figM (d : Nat) (h : d < 16) : CT Tryd.prog 49 [] [.int .i64 (d : Int)] (.int .u8 ((figB d).toNat : Int)) [] := by
  refine ct_intro tt_ok 1 rfl Tryd.func49 rfl rfl rfl ?_
  unfold figB
  by_cases h1 : d < 10
  · rw [if_pos h1]
    repeat ((try conv => whnf); first | (refine w_addl (by omega) ?_) | (refine w_u8 ?_) | (refine stpQ ?_))
    (refine ans_auto (by rfl) ?_ ?_ (by rfl)) <;> (repeat' (first | (exact eqA) | (refine And.intro ?_ ?_) | ((fail_if_success (with_reducible (show _ = _))); (show _ = _))))
  · rw [if_neg h1]
    repeat ((try conv => whnf); first | (refine w_addl (by omega) ?_) | (refine w_u8 ?_) | (refine stpQ ?_))
    (refine ans_auto (by rfl) ?_ ?_ (by rfl)) <;> (repeat' (first | (exact eqA) | (refine And.intro ?_ ?_) | ((fail_if_success (with_reducible (show _ = _))); (show _ = _))))
set_option maxRecDepth 100000 in
set_option maxHeartbeats 2000000 in
theorem c_DecimalM (n : Nat) (hn : n ≤ 9223372036854775807) : CT Tryd.prog 32 [] [.int .i64 (n : Int)] (.str (decM n)) [] := by
  refine ct_intro tt_ok 1 rfl Tryd.func32 rfl rfl rfl ?_
  unfold decM
  by_cases h0 : n = 0
  · subst h0
    repeat ((try conv => whnf); first | (refine stpQ ?_))
    (refine ans_auto (by rfl) ?_ ?_ (by rfl)) <;> (repeat' (first | (exact eqA) | (refine And.intro ?_ ?_) | ((fail_if_success (with_reducible (show _ = _))); (show _ = _)))) <;> rfl
  · rw [if_neg h0]
    repeat ((try conv => whnf); first | (refine stpQ ?_))
    refine loop_cut 0 ⟨[(3, .bool false), (4, .str (decG n []))], [], 2⟩ (Nat × Bs) (fun x => ⟨[(0, .int .i64 (x.1 : Int)), (3, .bool false), (4, .str x.2)], [], 2⟩) (fun x => decG x.1 x.2 = decG n [] ∧ x.1 * 10 ^ x.2.length ≤ 9223372036854775807) (fun x => x.1) (n, []) ⟨rfl, by simpa using hn⟩ ?_ ?_ ?_
    · (refine le_auto (by rfl) ?_ ?_) <;> (repeat' (first | (exact eqA) | (refine And.intro ?_ ?_) | ((fail_if_success (with_reducible (show _ = _))); (show _ = _)))) <;> first | rfl | (exact decide_eq_false (by omega)) | decide
    · intro x hx
      obtain ⟨m, out⟩ := x
      have h1 : decG m out = decG n [] := hx.1
      have h2 : m * 10 ^ out.length ≤ 9223372036854775807 := hx.2
      clear hx
      by_cases hm : m = 0
      · subst hm
        rw [decG_zero] at h1
        repeat ((try conv => whnf); first | (refine stpQ ?_))
        (refine le_auto (by rfl) ?_ ?_) <;> (repeat' (first | (exact eqA) | (refine And.intro ?_ ?_) | ((fail_if_success (with_reducible (show _ = _))); (show _ = _)))) <;> exact h1
      · have hd : m / 10 < m := Nat.div_lt_self (by omega) (by omega)
        have hl := pow_small hm h2
        have hm9 : m ≤ 9223372036854775807 := by
          have : m * 1 ≤ m * 10 ^ out.length := Nat.mul_le_mul_left _ (Nat.pos_of_ne_zero (by simp))
          omega
        have h3 := pow_next h2
        clear h2
        have cf := c_figM (m % 10) (by omega)
        rw [figB, if_pos (Nat.mod_lt _ (by decide))] at cf
        repeat ((try conv => whnf); first | (refine r_remn (n := nat_lit 10) ?_) | (refine ccA ([]) (cf) ?_) | (refine w_quon (n := nat_lit 10) (by omega) ?_) | (refine Exists.intro [UInt8.ofNat (48 + m % 10)] (And.intro rfl ?_)) | (refine And.intro (by simp only [List.length_cons, List.length_nil]; omega) ?_) | (refine stpQ ?_))
        refine ⟨(m / 10, UInt8.ofNat (48 + m % 10) :: out), ⟨by show decG (m / 10) _ = _; rw [← h1, decG_step hm], h3⟩, hd, ?_⟩
        (refine le_auto (by rfl) ?_ ?_) <;> (repeat' (first | (exact eqA) | (refine And.intro ?_ ?_) | ((fail_if_success (with_reducible (show _ = _))); (show _ = _))))
        rfl
    · generalize decG n [] = o
      repeat ((try conv => whnf); first | (refine stpQ ?_))
      (refine ans_auto (by rfl) ?_ ?_ (by rfl)) <;> (repeat' (first | (exact eqA) | (refine And.intro ?_ ?_) | ((fail_if_success (with_reducible (show _ = _))); (show _ = _))))
theorem bE_next (s : Bs) (k : Nat) (b : UInt8) (hk : k < s.length) (hb : s.getD k 0 = b) : bytesE (hexS (s.take (k + 1))) = bytesE (hexS (s.take k)) ++ [[.int .u8 ((figB (b.toNat / 16)).toNat : Int)], [.int .u8 ((figB (b.toNat % 16)).toNat : Int)]] := by
  have g : s[k]? = some b := by rw [← hb, List.getD, List.getElem?_eq_getElem hk]; rfl
  rw [List.take_add_one, g, hexS_app]
  simp [bytesE, byteE, hexS]
end
end Go.Proofs.YtkgfidphcpklhaaDoor
