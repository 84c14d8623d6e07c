/- Functions by content: numbers of any size, and bytes, written out. -/
import Derived.Lib.ItoaLen
import Derived.Test.YtfgfkhmldlpmkaaGreatDoorIto
import Derived.Test.YtfgfkhmldlpmkaaGreatDoorFE
namespace Go.Proofs.YtfgfkhmldlpmkaaGreatDoor
open Go.RowKit Pl
set_option linter.unusedVariables false
set_option linter.unusedSimpArgs false

/-- The digits of a number. -/
def decM (n : Nat) : Bs := if n = 0 then [48] else decG n []
theorem decG_dig (n : Nat) : ∀ out : Bs, n ≠ 0 → decG n out = Lib.decDigits n ++ out := by
  induction n using Nat.strongRecOn with
  | ind n ih =>
    intro out h
    rw [decG_step h]
    by_cases h1 : n < 10
    · rw [show n / 10 = 0 by omega, decG_zero, Lib.decDigits_one h1, show n % 10 = n by omega]
      rfl
    · rw [ih (n / 10) (by omega) _ (by omega)]
      conv => rhs; rw [Lib.decDigits, dif_neg h1]
      simp only [List.append_assoc, List.cons_append, List.nil_append]
theorem decM_dig (n : Nat) : Lib.decDigits n = decM n := by
  unfold decM
  by_cases h : n = 0
  · subst h
    rw [if_pos rfl, Lib.decDigits_one (by omega)]
    rfl
  · rw [if_neg h, decG_dig n [] h, List.append_nil]
/-- A count: what is negative is 0. -/
def cntB (n : Int) : Bs := decM n.toNat
theorem itoa_cnt {n : Int} (h : 0 ≤ n) : Lib.itoa n = cntB n := by
  rw [Lib.itoa, if_neg (by omega), decM_dig]
  rfl
theorem cntB_len (n : Int) (h : n ≤ 9223372036854775807) : (cntB n).length ≤ 21 := by
  by_cases h0 : 0 ≤ n
  · rw [← itoa_cnt h0]
    exact Lib.itoa_length_le n (by omega) h
  · rw [cntB, show n.toNat = 0 by omega]
    simp [decM]
theorem pow_small {m l : Nat} (hm : m ≠ 0) (h : m * 10 ^ l ≤ 9223372036854775807) : l ≤ 18 := by
  rcases Nat.lt_or_ge l 19 with h1 | h1
  · omega
  · have h2 : 10 ^ 19 ≤ 10 ^ l := Nat.pow_le_pow_right (by omega) h1
    have h3 : 1 * 10 ^ l ≤ m * 10 ^ l := Nat.mul_le_mul_right _ (by omega)
    omega
theorem pow_next {m l : Nat} (h : m * 10 ^ l ≤ 9223372036854775807) : m / 10 * 10 ^ (l + 1) ≤ 9223372036854775807 := by
  have h1 : m / 10 * 10 ≤ m := by omega
  have h2 : m / 10 * 10 * 10 ^ l ≤ m * 10 ^ l := Nat.mul_le_mul_right _ h1
  rw [Nat.pow_succ, Nat.mul_comm (10 ^ l) 10, ← Nat.mul_assoc]
  omega
/-- A figure, up to 15. -/
def figB (d : Nat) : UInt8 := if d < 10 then UInt8.ofNat (48 + d) else UInt8.ofNat (97 + d - 10)
/-- Bytes as figures. -/
def hexS (l : Bs) : Bs := l.flatMap fun b => [figB (b.toNat / 16), figB (b.toNat % 16)]
theorem hexS_app (a b : Bs) : hexS (a ++ b) = hexS a ++ hexS b := by simp [hexS]
theorem hexS_len (l : Bs) : (hexS l).length = 2 * l.length := by
  induction l with
  | nil => rfl
  | cons b l ih =>
    rw [show b :: l = [b] ++ l from rfl, hexS_app, List.length_append, ih, List.length_append]
    simp [hexS]
    omega
theorem take_one {l : Bs} {k : Nat} (h : k < l.length) : l.take (k + 1) = l.take k ++ [l.getD k 0] := by
  rw [List.take_add_one, List.getElem?_eq_getElem h, List.getD, List.getElem?_eq_getElem h]
  rfl
set_option maxRecDepth 100000 in
theorem and15 (b : UInt8) : bits .and .u8 (b.toNat : Int) 15 = ((b.toNat % 16 : Nat) : Int) := by
  have h : ∀ k : Fin 256, bits .and .u8 ((UInt8.ofNat k.val).toNat : Int) 15 = (((UInt8.ofNat k.val).toNat % 16 : Nat) : Int) := by decide
  have h2 := h ⟨b.toNat, b.toNat_lt⟩
  simpa using h2
def hexD : Bs := [48, 49, 50, 51, 52, 53, 54, 55, 56, 57, 97, 98, 99, 100, 101, 102]
theorem hexD_at {d : Nat} (h : d < 16) : hexD.getD d 0 = figB d := by
  have : ∀ k : Fin 16, hexD.getD k.val 0 = figB k.val := by decide
  exact this ⟨d, h⟩
section
attribute [local irreducible] CondB CallP LoopW AnsP LeP
set_option maxRecDepth 100000 in
set_option maxHeartbeats 1000000 in
theorem c_figM (d : Nat) (h : d < 16) : CT Tryz.prog 41 [] [.int .i64 (d : Int)] (.int .u8 ((figB d).toNat : Int)) [] := by
  refine ct_intro tt_ok 1 rfl Tryz.func41 rfl rfl rfl ?_
  unfold figB
  by_cases h1 : d < 10
  · rw [if_pos h1]
    repeat ((try conv => whnf); first | (refine w_addl (by omega) ?_) | (refine w_u8 ?_) | (refine stpQ ?_))
    (refine ans_auto (by rfl) ?_ ?_ (by rfl)) <;> (repeat' (first | (exact eqA) | (refine And.intro ?_ ?_) | ((fail_if_success (with_reducible (show _ = _))); (show _ = _))))
  · rw [if_neg h1]
    repeat ((try conv => whnf); first | (refine w_addl (by omega) ?_) | (refine w_u8 ?_) | (refine stpQ ?_))
    (refine ans_auto (by rfl) ?_ ?_ (by rfl)) <;> (repeat' (first | (exact eqA) | (refine And.intro ?_ ?_) | ((fail_if_success (with_reducible (show _ = _))); (show _ = _))))
set_option maxRecDepth 100000 in
set_option maxHeartbeats 2000000 in
theorem c_DecimalM (n : Nat) (hn : n ≤ 9223372036854775807) : CT Tryz.prog 17 [] [.int .i64 (n : Int)] (.str (decM n)) [] := by
  refine ct_intro tt_ok 1 rfl Tryz.func17 rfl rfl rfl ?_
  unfold decM
  by_cases h0 : n = 0
  · subst h0
    repeat ((try conv => whnf); first | (refine stpQ ?_))
    (refine ans_auto (by rfl) ?_ ?_ (by rfl)) <;> (repeat' (first | (exact eqA) | (refine And.intro ?_ ?_) | ((fail_if_success (with_reducible (show _ = _))); (show _ = _)))) <;> rfl
  · rw [if_neg h0]
    repeat ((try conv => whnf); first | (refine stpQ ?_))
    refine loop_cut 0 ⟨[(3, .bool false), (4, .str (decG n []))], [], 2⟩ (Nat × Bs) (fun x => ⟨[(0, .int .i64 (x.1 : Int)), (3, .bool false), (4, .str x.2)], [], 2⟩) (fun x => decG x.1 x.2 = decG n [] ∧ x.1 * 10 ^ x.2.length ≤ 9223372036854775807) (fun x => x.1) (n, []) ⟨rfl, by simpa using hn⟩ ?_ ?_ ?_
    · (refine le_auto (by rfl) ?_ ?_) <;> (repeat' (first | (exact eqA) | (refine And.intro ?_ ?_) | ((fail_if_success (with_reducible (show _ = _))); (show _ = _)))) <;> first | rfl | (exact decide_eq_false (by omega)) | decide
    · intro x hx
      obtain ⟨m, out⟩ := x
      have h1 : decG m out = decG n [] := hx.1
      have h2 : m * 10 ^ out.length ≤ 9223372036854775807 := hx.2
      clear hx
      by_cases hm : m = 0
      · subst hm
        rw [decG_zero] at h1
        repeat ((try conv => whnf); first | (refine stpQ ?_))
        (refine le_auto (by rfl) ?_ ?_) <;> (repeat' (first | (exact eqA) | (refine And.intro ?_ ?_) | ((fail_if_success (with_reducible (show _ = _))); (show _ = _)))) <;> exact h1
      · have hd : m / 10 < m := Nat.div_lt_self (by omega) (by omega)
        have hl := pow_small hm h2
        have hm9 : m ≤ 9223372036854775807 := by
          have : m * 1 ≤ m * 10 ^ out.length := Nat.mul_le_mul_left _ (Nat.pos_of_ne_zero (by simp))
          omega
        have h3 := pow_next h2
        clear h2
        have cf := c_figM (m % 10) (by omega)
        rw [figB, if_pos (Nat.mod_lt _ (by decide))] at cf
        repeat ((try conv => whnf); first | (refine r_remn (n := nat_lit 10) ?_) | (refine ccA ([]) (cf) ?_) | (refine w_quon (n := nat_lit 10) (by omega) ?_) | (refine Exists.intro [UInt8.ofNat (48 + m % 10)] (And.intro rfl ?_)) | (refine And.intro (by simp only [List.length_cons, List.length_nil]; omega) ?_) | (refine stpQ ?_))
        refine ⟨(m / 10, UInt8.ofNat (48 + m % 10) :: out), ⟨by show decG (m / 10) _ = _; rw [← h1, decG_step hm], h3⟩, hd, ?_⟩
        (refine le_auto (by rfl) ?_ ?_) <;> (repeat' (first | (exact eqA) | (refine And.intro ?_ ?_) | ((fail_if_success (with_reducible (show _ = _))); (show _ = _))))
        rfl
    · generalize decG n [] = o
      repeat ((try conv => whnf); first | (refine stpQ ?_))
      (refine ans_auto (by rfl) ?_ ?_ (by rfl)) <;> (repeat' (first | (exact eqA) | (refine And.intro ?_ ?_) | ((fail_if_success (with_reducible (show _ = _))); (show _ = _))))
set_option maxRecDepth 100000 in
set_option maxHeartbeats 1000000 in
theorem c_l30Num (n : Int) (h : -9223372036854775808 ≤ n ∧ n ≤ 9223372036854775807) : CT Tryz.prog 38 [] [.int .i64 n] (.str (cntB n)) [] := by
  refine ct_intro tt_ok 1 rfl Tryz.func38 rfl rfl rfl ?_
  by_cases h0 : n < 0
  · rw [show cntB n = [48] by rw [cntB, show n.toNat = 0 by omega]; rfl]
    repeat ((try conv => whnf); first | (refine stpQ ?_))
    (refine ans_auto (by rfl) ?_ ?_ (by rfl)) <;> (repeat' (first | (exact eqA) | (refine And.intro ?_ ?_) | ((fail_if_success (with_reducible (show _ = _))); (show _ = _))))
  · obtain ⟨m, rfl⟩ : ∃ m : Nat, n = m := ⟨n.toNat, by omega⟩
    have cf := c_DecimalM m (by omega)
    rw [show cntB (m : Int) = decM m from rfl]
    generalize decM m = D at cf ⊢
    repeat ((try conv => whnf); first | (refine ccA ([]) (cf) ?_) | (refine stpQ ?_))
    (refine ans_auto (by rfl) ?_ ?_ (by rfl)) <;> (repeat' (first | (exact eqA) | (refine And.intro ?_ ?_) | ((fail_if_success (with_reducible (show _ = _))); (show _ = _))))
set_option maxRecDepth 100000 in
set_option maxHeartbeats 1000000 in
theorem c_count (n : Int) (h : -9223372036854775808 ≤ n ∧ n ≤ 9223372036854775807) : CT Tryz.prog 26 [] [.int .i64 n] (.str (cntB n)) [] := by
  refine ct_intro tt_ok 1 rfl Tryz.func26 rfl rfl rfl ?_
  by_cases h0 : n < 0
  · have cf := c_DecimalAny 0 (by omega) (by omega)
    rw [show cntB n = Lib.itoa 0 by rw [itoa_cnt (by omega), cntB, cntB, show n.toNat = 0 by omega]; rfl]
    generalize Lib.itoa 0 = D at cf ⊢
    repeat ((try conv => whnf); first | (refine Exists.intro 0 (And.intro (by rw [if_pos (by omega)]) ?_)) | (refine ccA ([]) (cf) ?_) | (refine stpQ ?_))
    (refine ans_auto (by rfl) ?_ ?_ (by rfl)) <;> (repeat' (first | (exact eqA) | (refine And.intro ?_ ?_) | ((fail_if_success (with_reducible (show _ = _))); (show _ = _))))
  · have cf := c_DecimalAny n (by omega) (by omega)
    rw [itoa_cnt (by omega)] at cf
    generalize cntB n = D at cf ⊢
    repeat ((try conv => whnf); first | (refine Exists.intro n (And.intro (by split <;> omega) ?_)) | (refine ccA ([]) (cf) ?_) | (refine stpQ ?_))
    (refine ans_auto (by rfl) ?_ ?_ (by rfl)) <;> (repeat' (first | (exact eqA) | (refine And.intro ?_ ?_) | ((fail_if_success (with_reducible (show _ = _))); (show _ = _))))
theorem bE_next (s : Bs) (k : Nat) (b : UInt8) (hk : k < s.length) (hb : s.getD k 0 = b) : bytesE (hexS (s.take (k + 1))) = bytesE (hexS (s.take k)) ++ [[.int .u8 ((figB (b.toNat / 16)).toNat : Int)], [.int .u8 ((figB (b.toNat % 16)).toNat : Int)]] := by
  have g : s[k]? = some b := by rw [← hb, List.getD, List.getElem?_eq_getElem hk]; rfl
  rw [List.take_add_one, g, hexS_app]
  simp [bytesE, byteE, hexS]
set_option maxRecDepth 100000 in
set_option maxHeartbeats 2000000 in
theorem c_hexI (s : Bs) (hs : s.length ≤ 1000) : CT Tryz.prog 47 [] [.str s] (.str (hexS s)) [] := by
  refine ct_intro tt_ok 1 rfl Tryz.func47 rfl rfl rfl ?_
  repeat ((try conv => whnf); first | (refine stpQ ?_))
  refine loop_cut 0 ⟨[(3, .ref 1)], [(1, some (.row 1 (bytesE (hexS s))))], 2⟩ Nat (fun k => ⟨[(0, .str s), (3, .ref 1), (4, .int .i64 (k : Int))], [(1, some (.row 1 (bytesE (hexS (s.take k)))))], 2⟩) (fun k => k ≤ s.length) (fun k => s.length - k) 0 (by omega) ?_ ?_ ?_
  · (refine le_auto (by rfl) ?_ ?_) <;> (repeat' (first | (exact eqA) | (refine And.intro ?_ ?_) | ((fail_if_success (with_reducible (show _ = _))); (show _ = _)))) <;> first | rfl | decide
  · intro k hk
    have hl1 := bytesE_len (hexS (s.take k))
    have hl2 := hexS_len (s.take k)
    have hl3 : (s.take k).length = k := by rw [List.length_take]; omega
    by_cases hlt : k < s.length
    · have h1 := (s.getD k 0).toNat_lt
      have g1 := hexD_at (d := (s.getD k 0).toNat / 16) (by omega)
      have g2 := hexD_at (d := (s.getD k 0).toNat % 16) (by omega)
      have e1 : (((s.getD k 0).toNat / 16 : Nat) : Int) = ((s.getD k 0).toNat : Int) / 2 ^ (4 : Int).toNat := by show _ = ((s.getD k 0).toNat : Int) / 16; omega
      have e2 := and15 (s.getD k 0)
      have i1 : (s.getD k 0).toNat / 16 < hexD.length := by show _ < 16; omega
      have i2 : (s.getD k 0).toNat % 16 < hexD.length := by show _ < 16; omega
      have hn := bE_next s k _ hlt rfl
      have hbd : ∀ a b : List T, (((bytesE (hexS (s.take k))) ++ (((List.replicate 2 [T.int .u8 0]).set 0 a).set 1 b)).length : Int) ≤ 1000000000 := fun a b => by
        simp only [List.length_append, List.length_set, List.length_replicate]
        omega
      rw [← g1, ← g2] at hn
      clear g1 g2
      repeat ((try conv => whnf); first | (refine Exists.intro ((s.getD k 0).toNat / 16) (And.intro rfl (And.intro i1 ?_))) | (refine Exists.intro ((s.getD k 0).toNat % 16) (And.intro rfl (And.intro i2 ?_))) | (refine Exists.intro _ (And.intro e1 ?_)) | (refine Exists.intro _ (And.intro e2.symm ?_)) | (refine And.intro (hbd _ _) ?_) | (refine And.intro (by kernel_rfl) ?_) | (refine stpQ ?_))
      refine ⟨k + 1, by omega, by omega, ?_⟩
      (refine le_auto (by rfl) ?_ ?_) <;> (repeat' (first | (exact eqA) | (refine And.intro ?_ ?_) | ((fail_if_success (with_reducible (show _ = _))); (show _ = _))))
      all_goals first | exact hn.symm | exact hn
    · have hke : k = s.length := by omega
      subst hke
      rw [List.take_length]
      repeat ((try conv => whnf); first | (refine stpQ ?_))
      (refine le_auto (by rfl) ?_ ?_) <;> (repeat' (first | (exact eqA) | (refine And.intro ?_ ?_) | ((fail_if_success (with_reducible (show _ = _))); (show _ = _))))
  · repeat ((try conv => whnf); first | (refine Exists.intro (hexS s) (And.intro rfl ?_)) | (refine stpQ ?_))
    (refine ans_auto (by rfl) ?_ ?_ (by rfl)) <;> (repeat' (first | (exact eqA) | (refine And.intro ?_ ?_) | ((fail_if_success (with_reducible (show _ = _))); (show _ = _))))
set_option maxRecDepth 100000 in
set_option maxHeartbeats 2000000 in
theorem c_sHex (s : Bs) (hs : s.length ≤ 1000) : CT Tryz.prog 39 [] [.str s] (.tup [.str (hexS s), .bool true]) [] := by
  refine ct_intro tt_ok 1 rfl Tryz.func39 rfl rfl rfl ?_
  repeat ((try conv => whnf); first | (refine stpQ ?_))
  refine loop_cut 0 ⟨[(4, .ref 1)], [(1, some (.row 1 (bytesE (hexS s))))], 2⟩ Nat (fun k => ⟨[(0, .str s), (4, .ref 1), (5, .int .i64 (k : Int))], [(1, some (.row 1 (bytesE (hexS (s.take k)))))], 2⟩) (fun k => k ≤ s.length) (fun k => s.length - k) 0 (by omega) ?_ ?_ ?_
  · (refine le_auto (by rfl) ?_ ?_) <;> (repeat' (first | (exact eqA) | (refine And.intro ?_ ?_) | ((fail_if_success (with_reducible (show _ = _))); (show _ = _)))) <;> first | rfl | decide
  · intro k hk
    have hl1 := bytesE_len (hexS (s.take k))
    have hl2 := hexS_len (s.take k)
    have hl3 : (s.take k).length = k := by rw [List.length_take]; omega
    by_cases hlt : k < s.length
    · have h1 := (s.getD k 0).toNat_lt
      have c1 := c_figM ((s.getD k 0).toNat / 16) (by omega)
      have c2 := c_figM ((s.getD k 0).toNat % 16) (by omega)
      have hn := bE_next s k _ hlt rfl
      have hbd : ∀ a b : List T, (((bytesE (hexS (s.take k))) ++ (((List.replicate 2 [T.int .u8 0]).set 0 a).set 1 b)).length : Int) ≤ 1000000000 := fun a b => by
        simp only [List.length_append, List.length_set, List.length_replicate]
        omega
      repeat ((try conv => whnf); first | (refine w_quon (n := nat_lit 16) (by omega) ?_) | (refine r_remn (n := nat_lit 16) ?_) | (refine ccA ([]) (c1) ?_) | (refine ccA ([]) (c2) ?_) | (refine And.intro (hbd _ _) ?_) | (refine And.intro (by kernel_rfl) ?_) | (refine stpQ ?_))
      refine ⟨k + 1, by omega, by omega, ?_⟩
      (refine le_auto (by rfl) ?_ ?_) <;> (repeat' (first | (exact eqA) | (refine And.intro ?_ ?_) | ((fail_if_success (with_reducible (show _ = _))); (show _ = _))))
      all_goals first | exact hn.symm | exact hn
    · have hke : k = s.length := by omega
      subst hke
      rw [List.take_length]
      repeat ((try conv => whnf); first | (refine stpQ ?_))
      (refine le_auto (by rfl) ?_ ?_) <;> (repeat' (first | (exact eqA) | (refine And.intro ?_ ?_) | ((fail_if_success (with_reducible (show _ = _))); (show _ = _))))
  · repeat ((try conv => whnf); first | (refine Exists.intro (hexS s) (And.intro rfl ?_)) | (refine stpQ ?_))
    (refine ans_auto (by rfl) ?_ ?_ (by rfl)) <;> (repeat' (first | (exact eqA) | (refine And.intro ?_ ?_) | ((fail_if_success (with_reducible (show _ = _))); (show _ = _))))
end
end Go.Proofs.YtfgfkhmldlpmkaaGreatDoor
