/- The types that the code names. Functions by content: names, values, lists of entries. Functions by content: lists of entries. Functions by content: numbers, strings and entries as bytes. -/
import Derived.Test.YtfgkjgfigjpkoaaDoorVd
import Derived.Test.YtfgkjgfigjpkoaaDoorWa
import Derived.Test.YtfgkjgfigjpkoaaDoorPlainM
namespace Go.Proofs.YtfgkjgfigjpkoaaDoor
set_option linter.unusedVariables false
set_option linter.unusedSimpArgs false
set_option linter.unusedSectionVars false
open Go.RowKit Pl
def tyInt : Ty := ⟨1, 8, [.int .i64 0], .int .i64, false⟩
def tySl (e : TypeId) : Ty := ⟨1, 24, [.val nilV], .slice e, false⟩
def ttL : List (Nat × Ty) := [
 (4, ⟨1, 1, [.bool false], .bool, false⟩),
 (9, ⟨1, 16, [.str []], .string, false⟩),
 (5, ⟨1, 1, [.int .u8 0], .int .u8, false⟩),
 (22, tySl 5),
 (39, tySl 9),
 (82, tySl 3),
 (32, ⟨3, 40, [.int .i64 0, .str [], .str []], .struct [(0, 3), (1, 9), (2, 9)], true⟩),
 (71, ⟨3, 40, [.val nilV, .int .i64 0, .int .i64 0], .struct [(0, 22), (1, 3), (2, 3)], false⟩),
 (108, ⟨1, 4, [.int .u32 0], .int .u32, false⟩),
 (84, ⟨1, 8, [.int .u64 0], .int .u64, false⟩),
 (3, tyInt)]
def tt : TT := lk ttL
set_option maxRecDepth 100000 in
set_option maxHeartbeats 4000000 in
theorem zaz : ∀ p ∈ ttL, TyOk Tryd.prog p.1 p.2 := by
 simp only [ttL, List.forall_mem_cons]
 repeat' (refine And.intro ?_ ?_)
 all_goals first
  | exact (fun _ h => by cases h)
  | exact ⟨⟨_, _, rfl, rfl, rfl, rfl, rfl⟩, ⟨_, rfl, rfl⟩, rfl, rfl, fun h => (Bool.false_ne_true h).elim⟩
  | (refine ⟨⟨_, _, rfl, rfl, rfl, rfl, rfl⟩, ⟨_, rfl, rfl⟩, rfl, rfl, fun _ => ⟨by kernel_rfl, by kernel_rfl, _, rfl, z6a ?_⟩⟩
     repeat (first | exact rfl | (refine And.intro (by decide) (And.intro rfl (And.intro rfl ?_)))))
theorem z13 : TtOk Tryd.prog tt := fun t y h => zaz (t, y) (z1i h)
end Go.Proofs.YtfgkjgfigjpkoaaDoor
namespace Go.Proofs.YtfgkjgfigjpkoaaDoor
set_option maxRecDepth 100000
set_option maxHeartbeats 400000
set_option linter.unusedVariables false
set_option linter.unusedSimpArgs false
set_option linter.unusedSectionVars false
open Go.RowKit Pl
attribute [local irreducible] z0t z0u z0C AnsP LeP
theorem c_in (a lo hi : Int) : CT Tryd.prog 12 [] [.int .i64 a, .int .i64 lo, .int .i64 hi] (.bool (inB a lo hi)) [] := by
 refine z0d z13 1 rfl Tryd.func12 rfl rfl rfl ?_
 repeat' (first | ((try conv => whnf); first | (refine stpQ ?_)) | ((try conv => whnf); first | (refine cb_d (fun h => ?_) (fun h => ?_)) | (refine cb_n (fun h => ?_) (fun h => ?_)) | (refine cb (fun h => ?_) (fun h => ?_))))
 all_goals
  (refine z09 (by rfl) ?_ ?_ (by rfl)) <;> repeat' (first | (exact eqA) | (refine And.intro ?_ ?_) | ((fail_if_success (with_reducible (show _ = _))); (show _ = _))) <;> simp [inB] <;> omega
theorem z2C (a lo hi : Int) : CT Tryd.prog 30 [] [.int .i64 a, .int .i64 lo, .int .i64 hi] (.bool (inB a lo hi)) [] := by
 refine z0d z13 1 rfl Tryd.func30 rfl rfl rfl ?_
 repeat' (first | ((try conv => whnf); first | (refine stpQ ?_)) | ((try conv => whnf); first | (refine cb_d (fun h => ?_) (fun h => ?_)) | (refine cb_n (fun h => ?_) (fun h => ?_)) | (refine cb (fun h => ?_) (fun h => ?_))))
 all_goals
  (refine z09 (by rfl) ?_ ?_ (by rfl)) <;> repeat' (first | (exact eqA) | (refine And.intro ?_ ?_) | ((fail_if_success (with_reducible (show _ = _))); (show _ = _))) <;> simp [inB] <;> omega
end Go.Proofs.YtfgkjgfigjpkoaaDoor
namespace Go.Proofs.YtfgkjgfigjpkoaaDoor
set_option linter.unusedVariables false
set_option linter.unusedSimpArgs false
set_option linter.unusedSectionVars false
open Go.RowKit Pl
attribute [local irreducible] z0t z0u z0C AnsP LeP
end Go.Proofs.YtfgkjgfigjpkoaaDoor
namespace Go.Proofs.YtfgkjgfigjpkoaaDoor
set_option linter.unusedVariables false
set_option linter.unusedSimpArgs false
set_option linter.unusedSectionVars false
open Go.RowKit Pl
attribute [local irreducible] z0t z0u z0C AnsP LeP
theorem z0N {a n : Nat} {K : Int → Prop} (h : a ≤ 9223372036854775807) (hk : K ((a / n : Nat) : Int)) : ∃ r, r = IntKind.i64.wrap ((a : Int).tdiv (n : Int)) ∧ K r := by
 have e : (a : Int).tdiv (n : Int) = ((a / n : Nat) : Int) := Int.ofNat_tdiv a n
 have : a / n ≤ a := Nat.div_le_self _ _
 have h2 : ((a / n : Nat) : Int) ≤ 9223372036854775807 := by generalize a / n = x at *; omega
 have h3 : (0 : Int) ≤ ((a / n : Nat) : Int) := Int.natCast_nonneg _
 generalize a / n = x at *
 exact ⟨_, by rw [e, wrap_i64 (by omega) h2], hk⟩
theorem z5j {a n : Nat} {K : Int → Prop} (h : a ≤ 9223372036854775807) (hk : K ((a / OfNat.ofNat n : Nat) : Int)) : ∃ r, r = IntKind.i64.wrap ((a : Int).tdiv (OfNat.ofNat n : Int)) ∧ K r := z0N (n := OfNat.ofNat n) h hk
theorem z16 {a n : Nat} {K : Int → Prop} (hk : K ((a % OfNat.ofNat n : Nat) : Int)) : ∃ r, r = (a : Int).tmod (OfNat.ofNat n : Int) ∧ K r :=
 ⟨_, (Int.ofNat_tmod a (OfNat.ofNat n)).symm, hk⟩
theorem wrap_u8 {n : Nat} : IntKind.u8.wrap (n : Int) = ((UInt8.ofNat n).toNat : Int) := by
 show (if (false && decide ((n : Int) % 2 ^ 8 ≥ 2 ^ (8 - 1))) = true then (n : Int) % 2 ^ 8 - 2 ^ 8 else (n : Int) % 2 ^ 8) = _
 simp
theorem w_u8 {n : Nat} {K : Int → Prop} (hk : K ((UInt8.ofNat n).toNat : Int)) : ∃ r, r = IntKind.u8.wrap (n : Int) ∧ K r := ⟨_, wrap_u8.symm, hk⟩
theorem z0J (l : Bs) : (z0n l).length = l.length := by simp [z0n]
set_option maxRecDepth 100000 in
set_option maxHeartbeats 400000 in
theorem c_big (l : Bs) : CT Tryd.prog 4 [] [.sl 1 (z0n l)] (.bool (decide ((1048576 : Int) < (l.length : Int)))) [] := by
 have hlen := z0J l
 refine z0d z13 1 rfl Tryd.func4 rfl rfl rfl ?_
 repeat ((try conv => whnf); first | (refine stpQ ?_))
 rw [← hlen]
 (refine z09 (by rfl) ?_ ?_ (by rfl)) <;> repeat' (first | (exact eqA) | (refine And.intro ?_ ?_) | ((fail_if_success (with_reducible (show _ = _))); (show _ = _)))
theorem z1O {a n : Nat} {K : Int → Prop} (h : OfNat.ofNat n + a ≤ 9223372036854775807) (hk : K ((OfNat.ofNat n + a : Nat) : Int)) : ∃ r, r = IntKind.i64.wrap ((OfNat.ofNat n : Int) + (a : Int)) ∧ K r :=
 z5X (a := OfNat.ofNat n) h hk
end Go.Proofs.YtfgkjgfigjpkoaaDoor
