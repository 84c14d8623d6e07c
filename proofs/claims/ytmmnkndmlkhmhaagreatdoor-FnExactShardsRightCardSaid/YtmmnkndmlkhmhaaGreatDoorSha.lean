/- Functions by content: words of 32 bits, and the reference's digest. -/
import Derived.Test.YtmmnkndmlkhmhaaGreatDoorFE
import Derived.Test.YtmmnkndmlkhmhaaGreatDoorV21
import Derived.Test.YtmmnkndmlkhmhaaGreatDoorPlainSh
import Derived.Laws.BitsAllLaws
import Derived.Laws.Bits64
namespace Go.Proofs.YtmmnkndmlkhmhaaGreatDoor
open Go.RowKit Pl
set_option linter.unusedVariables false
set_option linter.unusedSimpArgs false
attribute [local irreducible] CondB CallP LoopW AnsP LeP

/-! ### types -/
def ttL2 : List (Nat × Ty) := ttL ++ [
  (262, ⟨8, 32, List.replicate 8 (.int .u32 0), .array 8 261, false⟩),
  (264, ⟨64, 256, List.replicate 64 (.int .u32 0), .array 64 261, false⟩)]
def tt2 : TT := lk ttL2
set_option maxRecDepth 100000 in
set_option maxHeartbeats 4000000 in
theorem tt2_ok : TtOk Tryz.prog tt2 := fun t y h => by
  have hm : (t, y) ∈ ttL2 := lk_mem h
  rcases List.mem_append.1 hm with h | h
  · exact tt_all (t, y) h
  · simp only [List.mem_cons, List.not_mem_nil, or_false, Prod.mk.injEq] at h
    rcases h with ⟨rfl, rfl⟩ | ⟨rfl, rfl⟩
    · exact ⟨⟨_, _, rfl, rfl, rfl, rfl, rfl⟩, ⟨_, rfl, rfl⟩, rfl, rfl, fun h => (Bool.false_ne_true h).elim⟩
    · exact ⟨⟨_, _, rfl, rfl, rfl, rfl, rfl⟩, ⟨_, rfl, rfl⟩, rfl, rfl, fun h => (Bool.false_ne_true h).elim⟩

/-! ### words -/
theorem wrap_u32 (n : Nat) : IntKind.u32.wrap (n : Int) = ((UInt32.ofNat n).toNat : Int) := by
  show (if (false && decide ((n : Int) % 2 ^ 32 ≥ 2 ^ (32 - 1))) = true then (n : Int) % 2 ^ 32 - 2 ^ 32 else (n : Int) % 2 ^ 32) = _
  simp
theorem u_add {a b : UInt32} {K : Int → Prop} (hk : K ((a + b).toNat : Int)) : ∃ r, r = IntKind.u32.wrap ((a.toNat : Int) + (b.toNat : Int)) ∧ K r := by
  refine ⟨_, ?_, hk⟩
  have e : (a.toNat : Int) + (b.toNat : Int) = ((a.toNat + b.toNat : Nat) : Int) := by omega
  rw [e, wrap_u32, UInt32.toNat_add, UInt32.toNat_ofNat']
theorem u_xor {a b : UInt32} {K : Int → Prop} (hk : K ((a ^^^ b).toNat : Int)) : ∃ r, r = bits .xor .u32 (a.toNat : Int) (b.toNat : Int) ∧ K r :=
  ⟨_, by rw [u32_xor_nat _ _ a.toNat_lt b.toNat_lt, UInt32.toNat_xor], hk⟩
theorem u_xorF {a : UInt32} {K : Int → Prop} (hk : K ((a ^^^ 4294967295).toNat : Int)) : ∃ r, r = bits .xor .u32 (a.toNat : Int) 4294967295 ∧ K r := u_xor (b := 4294967295) hk
theorem u_and {a b : UInt32} {K : Int → Prop} (hk : K ((a &&& b).toNat : Int)) : ∃ r, r = bits .and .u32 (a.toNat : Int) (b.toNat : Int) ∧ K r :=
  ⟨_, by rw [u32_and_nat _ _ a.toNat_lt b.toNat_lt, UInt32.toNat_and], hk⟩
theorem u_or {a b : UInt32} {K : Int → Prop} (hk : K ((a ||| b).toNat : Int)) : ∃ r, r = bits .or .u32 (a.toNat : Int) (b.toNat : Int) ∧ K r :=
  ⟨_, by rw [u32_or_nat _ _ a.toNat_lt b.toNat_lt, UInt32.toNat_or], hk⟩
theorem u_shl {a : UInt32} {e : Int} {n : Nat} {K : Int → Prop} (he : e.toNat = n) (hk : K ((shlN a n).toNat : Int)) : ∃ r, r = IntKind.u32.wrap ((a.toNat : Int) * 2 ^ e.toNat) ∧ K r := by
  refine ⟨_, ?_, hk⟩
  have e2 : (a.toNat : Int) * 2 ^ e.toNat = ((a.toNat * 2 ^ n : Nat) : Int) := by rw [he]; simp
  rw [e2, wrap_u32]; rfl
theorem u_shr {a : UInt32} {e : Int} {n : Nat} {K : Int → Prop} (he : e.toNat = n) (hk : K ((shrN a n).toNat : Int)) : ∃ r, r = (a.toNat : Int) / 2 ^ e.toNat ∧ K r := by
  refine ⟨_, ?_, hk⟩
  have h1 : a.toNat / 2 ^ n ≤ a.toNat := Nat.div_le_self _ _
  have h2 := a.toNat_lt
  rw [he, shrN, UInt32.toNat_ofNat', Nat.mod_eq_of_lt (by omega)]; simp
theorem u_of8 {b : UInt8} {K : Int → Prop} (hk : K ((o8 b).toNat : Int)) : ∃ r, r = IntKind.u32.wrap ((b.toNat : Nat) : Int) ∧ K r := ⟨_, by rw [wrap_u32]; rfl, hk⟩
theorem le32 {b : Int} (h : b ≤ 32) : b ≤ ((IntKind.u32.bits : Nat) : Int) := h
theorem w_mull {a n : Nat} {K : Int → Prop} (h : OfNat.ofNat n * a ≤ 9223372036854775807) (hk : K ((OfNat.ofNat n * a : Nat) : Int)) : ∃ r, r = IntKind.i64.wrap ((OfNat.ofNat n : Int) * (a : Int)) ∧ K r :=
  w_mul (a := OfNat.ofNat n) h hk
def wE (l : List UInt32) : List T := l.map fun x => .int .u32 (x.toNat : Int)
theorem wE_len (l : List UInt32) : (wE l).length = l.length := by simp [wE]
theorem wE_at {l : List UInt32} {i : Nat} (h : i < l.length) : (wE l)[i]? = some (.int .u32 ((l.getD i 0).toNat : Int)) := by simp [wE, List.getD, List.getElem?_eq_getElem h]
/-- Cells by their places. -/
def vE (f : Nat → UInt32) (n : Nat) : List T := (List.range n).map fun j => .int .u32 ((f j).toNat : Int)
theorem vE_len (f : Nat → UInt32) (n : Nat) : (vE f n).length = n := by simp [vE]
theorem vE_at {f : Nat → UInt32} {n i : Nat} (h : i < n) : (vE f n)[i]? = some (.int .u32 ((f i).toNat : Int)) := by simp [vE, h]
theorem vE_set {f : Nat → UInt32} {n i : Nat} (x : UInt32) : (vE f n).set i (.int .u32 (x.toNat : Int)) = vE (upd f i x) n := by
  apply List.ext_getElem?
  intro j
  rw [List.getElem?_set]
  by_cases hj : i = j
  · subst hj
    simp only [if_true, vE_len]
    by_cases hn : i < n
    · rw [if_pos hn, vE_at hn]; simp [upd]
    · rw [if_neg hn, List.getElem?_eq_none (by rw [vE_len]; omega)]
  · rw [if_neg hj]
    by_cases hn : j < n
    · have : Nat.beq j i = false := by
        cases hb : Nat.beq j i with
        | false => rfl
        | true => exact absurd (Nat.eq_of_beq_eq_true hb).symm hj
      rw [vE_at hn, vE_at hn, upd, this]; rfl
    · rw [List.getElem?_eq_none (by rw [vE_len]; omega), List.getElem?_eq_none (by rw [vE_len]; omega)]
theorem ml_plain (σ : Sub) (H : Hp) : ∀ (l : List T), (∀ x ∈ l, ∃ k n, x = .int k n) → Ml σ H l l
  | [], _ => rfl
  | x :: l, h => by
    obtain ⟨k, n, rfl⟩ := h x (by simp)
    exact ⟨⟨rfl, rfl⟩, ml_plain σ H l fun y hy => h y (by simp [hy])⟩
theorem ml_vE (σ : Sub) (H : Hp) (f : Nat → UInt32) (n : Nat) : Ml σ H (vE f n) (vE f n) := ml_plain σ H _ fun x hx => by
  simp only [vE, List.mem_map] at hx
  obtain ⟨j, _, rfl⟩ := hx
  exact ⟨_, _, rfl⟩
theorem wE_set (l : List UInt32) (i : Nat) (x : UInt32) : (wE l).set i (.int .u32 (x.toNat : Int)) = wE (l.set i x) := by simp [wE, List.map_set]
set_option maxRecDepth 100000 in
set_option maxHeartbeats 1000000 in
theorem c_turn (x : UInt32) (n : Nat) (hn : 0 < n ∧ n < 32) : CT Tryz.prog 305 [] [.int .u32 (x.toNat : Int), .int .u64 (n : Int)] (.int .u32 ((turnN x n).toNat : Int)) [] := by
  have hsub : IntKind.u64.wrap (32 - (n : Int)) = ((32 - n : Nat) : Int) := by rw [IntKind.wrap_u64]; omega
  refine ct_intro tt_ok 1 rfl Tryz.func305 rfl rfl rfl ?_
  repeat ((try conv => whnf); first | (refine Exists.intro _ (And.intro hsub.symm ?_)) | (refine And.intro (le32 (by omega)) ?_) | (refine u_shr (n := n) (by omega) ?_) | (refine u_shl (n := 32 - n) (by omega) ?_) | (refine u_or ?_) | (refine stpQ ?_))
  (refine ans_auto (by rfl) ?_ ?_ (by rfl)) <;> (repeat' (first | (exact eqA) | (refine And.intro ?_ ?_) | ((fail_if_success (with_reducible (show _ = _))); (show _ = _))))
  rfl
set_option maxRecDepth 100000 in
set_option maxHeartbeats 1000000 in
theorem c_first : CT Tryz.prog 208 [] [] (.agg (wE first8.list)) [] := by
  refine ct_intro tt2_ok 1 rfl Tryz.func208 rfl rfl rfl ?_
  repeat ((try conv => whnf); first | (refine stpQ ?_))
  (refine ans_auto (by rfl) ?_ ?_ (by rfl)) <;> (repeat' (first | (exact eqA) | (refine And.intro ?_ ?_) | ((fail_if_success (with_reducible (show _ = _))); (show _ = _)))) <;> first | rfl | decide
set_option maxRecDepth 100000 in
set_option maxHeartbeats 4000000 in
theorem c_keys : CT Tryz.prog 209 [] [] (.agg (vE kF 64)) [] := by
  refine ct_intro tt2_ok 1 rfl Tryz.func209 rfl rfl rfl ?_
  repeat ((try conv => whnf); first | (refine stpQ ?_))
  (refine ans_auto (by rfl) ?_ ?_ (by rfl)) <;> (repeat' (first | (exact eqA) | (refine And.intro ?_ ?_) | ((fail_if_success (with_reducible (show _ = _))); (show _ = _)))) <;> first | rfl | decide
end Go.Proofs.YtmmnkndmlkhmhaaGreatDoor
