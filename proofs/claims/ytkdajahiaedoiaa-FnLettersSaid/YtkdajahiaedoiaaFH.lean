/- Functions by content: what the drawing cursor gives. -/
import Derived.Test.YtkdajahiaedoiaaFE
import Derived.Laws.Bits128
namespace Go.Proofs.Ytkdajahiaedoiaa
open Go.RowKit Pl
set_option linter.unusedVariables false
set_option linter.unusedSimpArgs false
attribute [local irreducible] CondB CallP LoopW AnsP LeP

theorem le64b {b : Int} (h : b ≤ 64) : b ≤ ((IntKind.i64.bits : Nat) : Int) := h
theorem and255 (n : Int) : bits .and .i64 n 255 = n % 256 := by
  have h127 : (BitVec.ofInt 64 255).toNat = 2 ^ 8 - 1 := by decide
  have key : (BitVec.ofInt 64 n &&& BitVec.ofInt 64 255).toNat = (n % ((2 ^ 64 : Nat) : Int)).toNat % 2 ^ 8 := by
    rw [BitVec.toNat_and, BitVec.toNat_ofInt, h127, Nat.and_two_pow_sub_one_eq_mod]
  show IntKind.i64.wrap ((BitVec.ofInt 64 n &&& BitVec.ofInt 64 255).toNat : Nat) = n % 256
  rw [key, IntKind.wrap_i64]
  omega
theorem byte_of (n : Int) : ∃ x : Nat, bits .and .i64 n 255 = (x : Int) ∧ x ≤ 255 := ⟨(n % 256).toNat, by rw [and255]; omega, by omega⟩
/-- The cursor. -/
def curE (c : Bs) (i : Nat) (h : Int) : Ent := .box [.sl 1 (bytesE c), .int .i64 (i : Int), .int .i64 h]
theorem r_rem {a n : Nat} {K : Int → Prop} (hk : K ((a % n : Nat) : Int)) : ∃ r, r = (a : Int).tmod (n : Int) ∧ K r := ⟨_, (Int.ofNat_tmod a n).symm, hk⟩
theorem byte_at {c : Bs} {i : Nat} (h : i < c.length) : (bytesE c)[i]? = some [.int .u8 ((c.getD i 0).toNat : Int)] := by
  simp [bytesE, byteE, List.getD, List.getElem?_eq_getElem h]
def hNext (h : Int) : Int := IntKind.i64.wrap (IntKind.i64.wrap (h * 6364136223846793005) + 1442695040888963407)
def hByte (h : Int) : Int := bits .and .i64 (bits .xor .i64 (hNext h / 2 ^ (33 : Int).toNat) (hNext h / 2 ^ (45 : Int).toNat)) 255
set_option maxRecDepth 100000 in
set_option maxHeartbeats 1000000 in
theorem c_l01Byte (c : Bs) (i : Nat) (h : Int) (hc : (c.length : Int) ≤ 1048576) (hi : i ≤ c.length) : ∃ (x i' : Nat) (h' : Int), x ≤ 255 ∧ i' ≤ c.length ∧ CT Try.prog 90 [curE c i h] [.ptr 1 0 0] (.int .i64 (x : Int)) [curE c i' h'] := by
  have hlen := bytesE_len c
  by_cases hlt : i < c.length
  · have h8 := (c.getD i 0).toNat_lt
    obtain ⟨x0, hx0, hb0⟩ := byte_of (bits .xor .i64 (hNext h / 2 ^ (33 : Int).toNat) (hNext h / 2 ^ (45 : Int).toNat))
    obtain ⟨x, hx, hb⟩ := byte_of ((x0 + (c.getD i 0).toNat : Nat) : Int)
    refine ⟨x, i + 1, hNext h, hb, hlt, ct_intro tt_ok 2 rfl Try.func90 rfl rfl rfl ?_⟩
    repeat ((try conv => whnf); first | (refine Exists.intro c.length (And.intro hlen ?_)) | (refine And.intro (le64b (by omega)) ?_) | (refine i_at (byte_at hlt) ?_) | (refine Exists.intro _ (And.intro hx0.symm ?_)) | (refine Exists.intro _ (And.intro hx.symm ?_)) | (refine And.intro rfl ?_) | (refine w_addn (by omega) ?_) | (refine w_subn (by omega) ?_) | (refine w_add (by omega) ?_) | (refine w_sub (by omega) ?_) | (refine w_any (by omega) ?_) | (refine Exists.intro _ (And.intro rfl ?_)) | (with_reducible (refine cb_t rfl ?_)) | (with_reducible (refine cb_f rfl ?_)) | (refine cb_dt (by omega) ?_) | (refine cb_df (by omega) ?_) | (refine cb_nt (by omega) ?_) | (refine cb_nf (by omega) ?_) | (refine cb_t (by assumption) ?_) | (refine cb_f (by assumption) ?_) | (refine i_lt (by omega) ?_) | (refine i_le (by omega) ?_) | (refine i_cut (by omega) ?_) | (refine And.intro (by omega) ?_) | (refine And.intro trivial ?_) | (refine And.intro (by decide) ?_) | (refine And.intro (Nat.le_of_ble_eq_true rfl) ?_))
    (refine ans_auto (by rfl) ?_ ?_ (by rfl)) <;> repeat' (first | (exact trivial) | (with_reducible rfl) | (exact (rfl : _ = true)) | (exact (rfl : _ = some _)) | (exact (rfl : _ = none)) | (refine And.intro ?_ ?_) | ((show (_ : Int) = _); omega) | ((fail_if_success (with_reducible (show _ = _))); (show _ = _)))
    rfl
  · obtain ⟨x0, hx0, hb0⟩ := byte_of (bits .xor .i64 (hNext h / 2 ^ (33 : Int).toNat) (hNext h / 2 ^ (45 : Int).toNat))
    refine ⟨x0, i, hNext h, hb0, hi, ct_intro tt_ok 2 rfl Try.func90 rfl rfl rfl ?_⟩
    repeat ((try conv => whnf); first | (refine Exists.intro c.length (And.intro hlen ?_)) | (refine And.intro (le64b (by omega)) ?_) | (refine Exists.intro _ (And.intro hx0.symm ?_)) | (refine And.intro rfl ?_) | (refine w_addn (by omega) ?_) | (refine w_subn (by omega) ?_) | (refine w_add (by omega) ?_) | (refine w_sub (by omega) ?_) | (refine w_any (by omega) ?_) | (refine Exists.intro _ (And.intro rfl ?_)) | (with_reducible (refine cb_t rfl ?_)) | (with_reducible (refine cb_f rfl ?_)) | (refine cb_dt (by omega) ?_) | (refine cb_df (by omega) ?_) | (refine cb_nt (by omega) ?_) | (refine cb_nf (by omega) ?_) | (refine cb_t (by assumption) ?_) | (refine cb_f (by assumption) ?_) | (refine i_lt (by omega) ?_) | (refine i_le (by omega) ?_) | (refine i_cut (by omega) ?_) | (refine And.intro (by omega) ?_) | (refine And.intro trivial ?_) | (refine And.intro (by decide) ?_) | (refine And.intro (Nat.le_of_ble_eq_true rfl) ?_))
    (refine ans_auto (by rfl) ?_ ?_ (by rfl)) <;> repeat' (first | (exact trivial) | (with_reducible rfl) | (exact (rfl : _ = true)) | (exact (rfl : _ = some _)) | (exact (rfl : _ = none)) | (refine And.intro ?_ ?_) | ((show (_ : Int) = _); omega) | ((fail_if_success (with_reducible (show _ = _))); (show _ = _)))
    rfl
set_option maxRecDepth 100000 in
set_option maxHeartbeats 1000000 in
theorem c_l01Below (c : Bs) (i : Nat) (h : Int) (n : Nat) (hc : (c.length : Int) ≤ 1048576) (hi : i ≤ c.length) (hn : 0 < n ∧ n ≤ 256) : ∃ (x i' : Nat) (h' : Int), x < n ∧ i' ≤ c.length ∧ CT Try.prog 87 [curE c i h] [.ptr 1 0 0, .int .i64 (n : Int)] (.int .i64 (x : Int)) [curE c i' h'] := by
  obtain ⟨x, i', h', hx, hi', k⟩ := c_l01Byte c i h hc hi
  refine ⟨x % n, i', h', Nat.mod_lt _ (by omega), hi', ct_intro tt_ok 2 rfl Try.func87 rfl rfl rfl ?_⟩
  repeat ((try conv => whnf); first | (refine c_call ([1]) (k) (by ((repeat' (first | (exact trivial) | (exact rfl) | (decide) | (refine And.intro ?_ ?_))); first | done | fail)) (by ((repeat' (first | (exact trivial) | (exact rfl) | (decide) | (refine And.intro ?_ ?_))); first | done | fail)) (by decide) (by rfl) (by first | exact .inl rfl | (refine .inr ⟨?_, ?_⟩ <;> simp [own2, own1, own0, ownE])) ?_) | (refine r_rem ?_) | (refine And.intro rfl ?_) | (refine w_addn (by omega) ?_) | (refine w_subn (by omega) ?_) | (refine w_add (by omega) ?_) | (refine w_sub (by omega) ?_) | (refine w_any (by omega) ?_) | (refine Exists.intro _ (And.intro rfl ?_)) | (with_reducible (refine cb_t rfl ?_)) | (with_reducible (refine cb_f rfl ?_)) | (refine cb_dt (by omega) ?_) | (refine cb_df (by omega) ?_) | (refine cb_nt (by omega) ?_) | (refine cb_nf (by omega) ?_) | (refine cb_t (by assumption) ?_) | (refine cb_f (by assumption) ?_) | (refine i_lt (by omega) ?_) | (refine i_le (by omega) ?_) | (refine i_cut (by omega) ?_) | (refine And.intro (by omega) ?_) | (refine And.intro trivial ?_) | (refine And.intro (by decide) ?_) | (refine And.intro (Nat.le_of_ble_eq_true rfl) ?_))
  (refine ans_auto (by rfl) ?_ ?_ (by rfl)) <;> repeat' (first | (exact trivial) | (with_reducible rfl) | (exact (rfl : _ = true)) | (exact (rfl : _ = some _)) | (exact (rfl : _ = none)) | (refine And.intro ?_ ?_) | ((show (_ : Int) = _); omega) | ((fail_if_success (with_reducible (show _ = _))); (show _ = _)))
end Go.Proofs.Ytkdajahiaedoiaa
