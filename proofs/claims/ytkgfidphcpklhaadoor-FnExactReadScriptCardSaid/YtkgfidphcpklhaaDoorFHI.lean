/- Functions by content: what the drawing cursor gives. Functions by content: drawn names and values. -/
import Derived.Test.YtkgfidphcpklhaaDoorFBE
import Derived.Laws.Bits128
namespace Go.Proofs.YtkgfidphcpklhaaDoor
open Go.RowKit Pl
set_option linter.unusedVariables false
set_option linter.unusedSimpArgs false
attribute [local irreducible] CondB CallP LoopW AnsP LeP

theorem le64b {b : Int} (h : b ≤ 64) : b ≤ ((IntKind.i64.bits : Nat) : Int) := h
theorem and255 (n : Int) : bits .and .i64 n 255 = n % 256 := by
  have h127 : (BitVec.ofInt 64 255).toNat = 2 ^ 8 - 1 := by decide
  have key : (BitVec.ofInt 64 n &&& BitVec.ofInt 64 255).toNat = (n % ((2 ^ 64 : Nat) : Int)).toNat % 2 ^ 8 := by
    rw [BitVec.toNat_and, BitVec.toNat_ofInt, h127, Nat.and_two_pow_sub_one_eq_mod]
  show IntKind.i64.wrap ((BitVec.ofInt 64 n &&& BitVec.ofInt 64 255).toNat : Nat) = n % 256
  rw [key, IntKind.wrap_i64]
  omega
theorem byte_of (n : Int) : ∃ x : Nat, bits .and .i64 n 255 = (x : Int) ∧ x ≤ 255 := ⟨(n % 256).toNat, by rw [and255]; omega, by omega⟩
/-- The cursor. -/
def curE (c : Bs) (i : Nat) (h : Int) : Ent := .box [.sl 1 (bytesE c), .int .i64 (i : Int), .int .i64 h]
theorem r_rem {a n : Nat} {K : Int → Prop} (hk : K ((a % n : Nat) : Int)) : ∃ r, r = (a : Int).tmod (n : Int) ∧ K r := ⟨_, (Int.ofNat_tmod a n).symm, hk⟩
theorem byte_at {c : Bs} {i : Nat} (h : i < c.length) : (bytesE c)[i]? = some [.int .u8 ((c.getD i 0).toNat : Int)] := by
  simp [bytesE, byteE, List.getD, List.getElem?_eq_getElem h]
def hNext (h : Int) : Int := IntKind.i64.wrap (IntKind.i64.wrap (h * 6364136223846793005) + 1442695040888963407)
def hByte (h : Int) : Int := bits .and .i64 (bits .xor .i64 (hNext h / 2 ^ (33 : Int).toNat) (hNext h / 2 ^ (45 : Int).toNat)) 255
set_option maxRecDepth 100000 in
set_option maxHeartbeats 1000000 in
theorem c_l01Byte (c : Bs) (i : Nat) (h : Int) (hc : (c.length : Int) ≤ 1048576) (hi : i ≤ c.length) : ∃ (x i' : Nat) (h' : Int), x ≤ 255 ∧ i' ≤ c.length ∧ CT Tryd.prog 47 [curE c i h] [.ptr 1 0 0] (.int .i64 (x : Int)) [curE c i' h'] := by
  have hlen := bytesE_len c
  by_cases hlt : i < c.length
  · have h8 := (c.getD i 0).toNat_lt
    obtain ⟨x0, hx0, hb0⟩ := byte_of (bits .xor .i64 (hNext h / 2 ^ (33 : Int).toNat) (hNext h / 2 ^ (45 : Int).toNat))
    obtain ⟨x, hx, hb⟩ := byte_of ((x0 + (c.getD i 0).toNat : Nat) : Int)
    refine ⟨x, i + 1, hNext h, hb, hlt, ct_intro tt_ok 2 rfl Tryd.func47 rfl rfl rfl ?_⟩
    repeat ((try conv => whnf); first | (refine Exists.intro c.length (And.intro hlen ?_)) | (refine And.intro (le64b (by omega)) ?_) | (refine i_at (byte_at hlt) ?_) | (refine Exists.intro _ (And.intro hx0.symm ?_)) | (refine Exists.intro _ (And.intro hx.symm ?_)) | (refine stpQ ?_))
    (refine ans_auto (by rfl) ?_ ?_ (by rfl)) <;> repeat' (first | (exact eqA) | (refine And.intro ?_ ?_) | ((fail_if_success (with_reducible (show _ = _))); (show _ = _)))
    rfl
  · obtain ⟨x0, hx0, hb0⟩ := byte_of (bits .xor .i64 (hNext h / 2 ^ (33 : Int).toNat) (hNext h / 2 ^ (45 : Int).toNat))
    refine ⟨x0, i, hNext h, hb0, hi, ct_intro tt_ok 2 rfl Tryd.func47 rfl rfl rfl ?_⟩
    repeat ((try conv => whnf); first | (refine Exists.intro c.length (And.intro hlen ?_)) | (refine And.intro (le64b (by omega)) ?_) | (refine Exists.intro _ (And.intro hx0.symm ?_)) | (refine stpQ ?_))
    (refine ans_auto (by rfl) ?_ ?_ (by rfl)) <;> repeat' (first | (exact eqA) | (refine And.intro ?_ ?_) | ((fail_if_success (with_reducible (show _ = _))); (show _ = _)))
    rfl
set_option maxRecDepth 100000 in
set_option maxHeartbeats 1000000 in
theorem c_l01Below (c : Bs) (i : Nat) (h : Int) (n : Nat) (hc : (c.length : Int) ≤ 1048576) (hi : i ≤ c.length) (hn : 0 < n ∧ n ≤ 256) : ∃ (x i' : Nat) (h' : Int), x < n ∧ i' ≤ c.length ∧ CT Tryd.prog 29 [curE c i h] [.ptr 1 0 0, .int .i64 (n : Int)] (.int .i64 (x : Int)) [curE c i' h'] := by
  obtain ⟨x, i', h', hx, hi', k⟩ := c_l01Byte c i h hc hi
  refine ⟨x % n, i', h', Nat.mod_lt _ (by omega), hi', ct_intro tt_ok 2 rfl Tryd.func29 rfl rfl rfl ?_⟩
  repeat ((try conv => whnf); first | (refine ccB ([1]) (k) ?_) | (refine r_rem ?_) | (refine stpQ ?_))
  (refine ans_auto (by rfl) ?_ ?_ (by rfl)) <;> repeat' (first | (exact eqA) | (refine And.intro ?_ ?_) | ((fail_if_success (with_reducible (show _ = _))); (show _ = _)))
end Go.Proofs.YtkgfidphcpklhaaDoor
namespace Go.Proofs.YtkgfidphcpklhaaDoor
open Go.RowKit Pl
set_option linter.unusedVariables false
set_option linter.unusedSimpArgs false
attribute [local irreducible] CondB CallP LoopW AnsP LeP

def strE (l : List Bs) : List (List T) := l.map fun s => [.str s]
theorem strE_len (l : List Bs) : (strE l).length = l.length := by simp [strE]
theorem strE_at {l : List Bs} {i : Nat} (h : i < l.length) : (strE l)[i]? = some [.str (l.getD i [])] := by simp [strE, List.getD, List.getElem?_eq_getElem h]
set_option maxRecDepth 100000 in
set_option maxHeartbeats 1000000 in
theorem c_l01Pick (c : Bs) (i : Nat) (h : Int) (l : List Bs) (hc : (c.length : Int) ≤ 1048576) (hi : i ≤ c.length) (hl : 0 < l.length ∧ l.length ≤ 256) : ∃ (s : Bs) (i' : Nat) (h' : Int), s ∈ l ∧ i' ≤ c.length ∧ CT Tryd.prog 50 [curE c i h] [.ptr 1 0 0, .sl 1 (strE l)] (.str s) [curE c i' h'] := by
  obtain ⟨x, i', h', hx, hi', k⟩ := c_l01Below c i h l.length hc hi hl
  have hlen := strE_len l
  refine ⟨l.getD x [], i', h', ?_, hi', ct_intro tt_ok 2 rfl Tryd.func50 rfl rfl rfl ?_⟩
  · simp [List.getD, List.getElem?_eq_getElem hx]
  · repeat ((try conv => whnf); first | (refine Exists.intro l.length (And.intro hlen ?_)) | (refine ccB ([1]) (k) ?_) | (refine i_at (strE_at hx) ?_) | (refine stpQ ?_))
    (refine ans_auto (by rfl) ?_ ?_ (by rfl)) <;> repeat' (first | (exact eqA) | (refine And.intro ?_ ?_) | ((fail_if_success (with_reducible (show _ = _))); (show _ = _)))
def names12 : List Bs := [[97, 110, 110], [98, 111, 98], [99, 97, 116], [100, 97, 110], [101, 118, 101], [102, 97, 121], [103, 117, 115], [104, 97, 108], [105, 118, 121], [106, 111, 101, 64, 120, 46, 111, 114, 103], [107, 105, 109], [108, 101, 111]]
def values5 : List Bs := [[107, 49], [107, 50], [107, 51], [107, 101, 121, 45, 102, 111, 117, 114], [122]]
theorem names12_ok : names12.all (fun s => nameOk s && decide (s.length ≤ 9)) = true := by decide +kernel
theorem values5_ok : values5.all (fun s => valueOk s && decide (s.length ≤ 9)) = true := by decide +kernel
set_option maxRecDepth 100000 in
set_option maxHeartbeats 1000000 in
theorem c_l04Name (c : Bs) (i : Nat) (h : Int) (hc : (c.length : Int) ≤ 1048576) (hi : i ≤ c.length) : ∃ (s : Bs) (i' : Nat) (h' : Int), (nameOk s = true ∧ s.length ≤ 9) ∧ i' ≤ c.length ∧ CT Tryd.prog 34 [curE c i h] [.ptr 1 0 0] (.str s) [curE c i' h'] := by
  obtain ⟨s, i', h', hs, hi', k⟩ := c_l01Pick c i h names12 hc hi (by decide)
  refine ⟨s, i', h', ?_, hi', ct_intro tt_ok 2 rfl Tryd.func34 rfl rfl rfl ?_⟩
  · have := List.all_eq_true.1 names12_ok s hs
    simpa using this
  · repeat ((try conv => whnf); first | (refine c_callG ([34]) ([1]) (k) (by ((repeat' (first | (exact trivial) | (exact rfl) | (decide) | (refine And.intro ?_ ?_))); first | done | fail)) (by ((repeat' (first | (exact trivial) | (exact rfl) | (decide) | (refine And.intro ?_ ?_))); first | done | fail)) (by decide) (by rfl) (by first | exact .inl rfl | (refine .inr ⟨?_, ?_⟩ <;> simp [own2, own1, own0, ownE])) ?_) | (refine stpQ ?_))
    (refine ans_auto (by rfl) ?_ ?_ (by rfl)) <;> repeat' (first | (exact eqA) | (refine And.intro ?_ ?_) | ((fail_if_success (with_reducible (show _ = _))); (show _ = _)))
set_option maxRecDepth 100000 in
set_option maxHeartbeats 1000000 in
theorem c_l09Value (c : Bs) (i : Nat) (h : Int) (hc : (c.length : Int) ≤ 1048576) (hi : i ≤ c.length) : ∃ (s : Bs) (i' : Nat) (h' : Int), (valueOk s = true ∧ s.length ≤ 9) ∧ i' ≤ c.length ∧ CT Tryd.prog 77 [curE c i h] [.ptr 1 0 0] (.str s) [curE c i' h'] := by
  obtain ⟨s, i', h', hs, hi', k⟩ := c_l01Pick c i h values5 hc hi (by decide)
  refine ⟨s, i', h', ?_, hi', ct_intro tt_ok 2 rfl Tryd.func77 rfl rfl rfl ?_⟩
  · have := List.all_eq_true.1 values5_ok s hs
    simpa using this
  · repeat ((try conv => whnf); first | (refine c_callG ([34]) ([1]) (k) (by ((repeat' (first | (exact trivial) | (exact rfl) | (decide) | (refine And.intro ?_ ?_))); first | done | fail)) (by ((repeat' (first | (exact trivial) | (exact rfl) | (decide) | (refine And.intro ?_ ?_))); first | done | fail)) (by decide) (by rfl) (by first | exact .inl rfl | (refine .inr ⟨?_, ?_⟩ <;> simp [own2, own1, own0, ownE])) ?_) | (refine stpQ ?_))
    (refine ans_auto (by rfl) ?_ ?_ (by rfl)) <;> repeat' (first | (exact eqA) | (refine And.intro ?_ ?_) | ((fail_if_success (with_reducible (show _ = _))); (show _ = _)))
def hStart (c : Bs) : Nat → Int
  | 0 => ((35901 + c.length : Nat) : Int)
  | k + 1 => bits .and .i64 (IntKind.i64.wrap (IntKind.i64.wrap (IntKind.i64.wrap (hStart c k * 131) + ((c.getD k 0).toNat : Int)) + 7)) 1073741823
set_option maxRecDepth 100000 in
set_option maxHeartbeats 1000000 in
theorem c_l01New (c : Bs) (hc : (c.length : Int) ≤ 1048576) : ∃ (h : Int), CT Tryd.prog 28 [] [.sl 1 (bytesE c)] (.ptr 1 0 0) [curE c 0 h] := by
  have hlen := bytesE_len c
  refine ⟨hStart c (min c.length 4000), ct_intro tt_ok 1 rfl Tryd.func28 rfl rfl rfl ?_⟩
  repeat ((try conv => whnf); first | (refine Exists.intro c.length (And.intro hlen ?_)) | (refine stpQ ?_))
  refine loop_of Nat (fun k => ⟨[(0, .sl 1 (bytesE c)), (3, .int .i64 (hStart c k)), (4, .int .i64 (k : Int))], [], 2⟩) (fun k => k ≤ c.length ∧ k ≤ 4000) (fun k => 4000 - k) 0 ⟨by omega, by omega⟩ ?_ ?_
  · (refine le_auto (by rfl) ?_ ?_) <;> (repeat' (first | (exact eqA) | (refine And.intro ?_ ?_) | ((fail_if_success (with_reducible (show _ = _))); (show _ = _))))
    show _ = ((35901 + c.length : Nat) : Int)
    omega
  · rintro k ⟨hk, hk2⟩
    by_cases hlt : k < c.length ∧ k < 4000
    · have h8 := (c.getD k 0).toNat_lt
      repeat ((try conv => whnf); first | (refine Exists.intro c.length (And.intro hlen ?_)) | (refine i_at (byte_at hlt.1) ?_) | (refine stpQ ?_))
      refine ⟨k + 1, ⟨by omega, by omega⟩, by omega, ?_⟩
      (refine le_auto (by rfl) ?_ ?_) <;> (repeat' (first | (exact eqA) | (refine And.intro ?_ ?_) | ((fail_if_success (with_reducible (show _ = _))); (show _ = _))))
      rfl
    · have e : k = min c.length 4000 := by omega
      subst e
      repeat' (first | ((try conv => whnf); first | (refine Exists.intro c.length (And.intro hlen ?_)) | (refine stpQ ?_)) | ((try conv => whnf); first | (refine cb_d (fun h => ?_) (fun h => ?_)) | (refine cb_n (fun h => ?_) (fun h => ?_)) | (refine cb (fun h => ?_) (fun h => ?_))))
      all_goals first
        | omega
        | ((refine ans_auto (by rfl) ?_ ?_ (by rfl)) <;> (repeat' (first | (exact eqA) | (refine And.intro ?_ ?_) | ((fail_if_success (with_reducible (show _ = _))); (show _ = _)))))
end Go.Proofs.YtkgfidphcpklhaaDoor
