/- The types that the code names. Functions by content: names, values, lists of entries. Functions by content: lists of entries. Functions by content: numbers, strings and entries as bytes. -/
import Derived.Test.YtnhcfmmdaihneaaGreatDoorVd
import Derived.Test.YtnhcfmmdaihneaaGreatDoorWa
import Derived.Test.YtnhcfmmdaihneaaGreatDoorPlainM
namespace Go.Proofs.YtnhcfmmdaihneaaGreatDoor
set_option linter.unusedVariables false
set_option linter.unusedSimpArgs false
set_option linter.unusedSectionVars false
open Go.RowKit Pl
def zkz : Ty := ⟨1, 8, [.int .i64 0], .int .i64, false⟩
def tySl (e : TypeId) : Ty := ⟨1, 24, [.val nilV], .slice e, false⟩
def ttL : List (Nat × Ty) := [
 (4, ⟨1, 1, [.bool false], .bool, false⟩),
 (9, ⟨1, 16, [.str []], .string, false⟩),
 (5, ⟨1, 1, [.int .u8 0], .int .u8, false⟩),
 (193, ⟨2, 32, [.str [], .str []], .struct [(0, 9), (1, 9)], true⟩),
 (80, tySl 193),
 (199, tySl 5),
 (22, tySl 9),
 (39, tySl 3),
 (226, ⟨3, 40, [.int .i64 0, .str [], .str []], .struct [(0, 3), (1, 9), (2, 9)], true⟩),
 (116, tySl 226),
 (88, ⟨3, 32, [.str [], .int .i64 0, .bool false], .struct [(0, 9), (1, 3), (2, 4)], false⟩),
 (77, ⟨3, 32, [.str [], .int .i64 0, .bool false], .struct [(0, 9), (1, 3), (2, 4)], false⟩),
 (258, ⟨1, 4, [.int .u32 0], .int .u32, false⟩),
 (177, ⟨1, 8, [.int .u64 0], .int .u64, false⟩),
 (3, zkz)]
def tt : TT := lk ttL
set_option maxRecDepth 100000 in
set_option maxHeartbeats 4000000 in
theorem zdg : ∀ p ∈ ttL, TyOk Tryz.prog p.1 p.2 := by
 simp only [ttL, List.forall_mem_cons]
 repeat' (refine And.intro ?_ ?_)
 all_goals first
  | exact (fun _ h => by cases h)
  | exact ⟨⟨_, _, rfl, rfl, rfl, rfl, rfl⟩, ⟨_, rfl, rfl⟩, rfl, rfl, fun h => (Bool.false_ne_true h).elim⟩
  | (refine ⟨⟨_, _, rfl, rfl, rfl, rfl, rfl⟩, ⟨_, rfl, rfl⟩, rfl, rfl, fun _ => ⟨by kernel_rfl, by kernel_rfl, _, rfl, z8C ?_⟩⟩
     repeat (first | exact rfl | (refine And.intro (by decide) (And.intro rfl (And.intro rfl ?_)))))
theorem z0L : TtOk Tryz.prog tt := fun t y h => zdg (t, y) (z1M h)
end Go.Proofs.YtnhcfmmdaihneaaGreatDoor
namespace Go.Proofs.YtnhcfmmdaihneaaGreatDoor
set_option maxRecDepth 100000
set_option maxHeartbeats 400000
set_option linter.unusedVariables false
set_option linter.unusedSimpArgs false
set_option linter.unusedSectionVars false
open Go.RowKit Pl
attribute [local irreducible] z0w z0x z0A AnsP LeP
theorem c_in (a lo hi : Int) : CT Tryz.prog 94 [] [.int .i64 a, .int .i64 lo, .int .i64 hi] (.bool (inB a lo hi)) [] := by
 refine z01 z0L 1 rfl Tryz.func94 rfl rfl rfl ?_
 repeat' (first | ((try conv => whnf); first | (refine stpQ ?_)) | ((try conv => whnf); first | (refine cb_d (fun h => ?_) (fun h => ?_)) | (refine cb_n (fun h => ?_) (fun h => ?_)) | (refine cb (fun h => ?_) (fun h => ?_))))
 all_goals
  (refine z00 (by rfl) ?_ ?_ (by rfl)) <;> repeat' (first | (exact eqA) | (refine shE ?_) | (refine And.intro ?_ ?_)) <;> simp [inB] <;> omega
theorem z1B (a lo hi : Int) : CT Tryz.prog 84 [] [.int .i64 a, .int .i64 lo, .int .i64 hi] (.bool (inB a lo hi)) [] := by
 refine z01 z0L 1 rfl Tryz.func84 rfl rfl rfl ?_
 repeat' (first | ((try conv => whnf); first | (refine stpQ ?_)) | ((try conv => whnf); first | (refine cb_d (fun h => ?_) (fun h => ?_)) | (refine cb_n (fun h => ?_) (fun h => ?_)) | (refine cb (fun h => ?_) (fun h => ?_))))
 all_goals
  (refine z00 (by rfl) ?_ ?_ (by rfl)) <;> repeat' (first | (exact eqA) | (refine shE ?_) | (refine And.intro ?_ ?_)) <;> simp [inB] <;> omega
end Go.Proofs.YtnhcfmmdaihneaaGreatDoor
namespace Go.Proofs.YtnhcfmmdaihneaaGreatDoor
set_option linter.unusedVariables false
set_option linter.unusedSimpArgs false
set_option linter.unusedSectionVars false
open Go.RowKit Pl
attribute [local irreducible] z0w z0x z0A AnsP LeP
def lvE (l : List Lf) : List (List T) := l.map fun x => [.str x.1, .str x.2]
def Fit (l : List Lf) : Prop := ∀ i, ((lfAt l i).1.length : Int) ≤ 1000000000 ∧ ((lfAt l i).2.length : Int) ≤ 1000000000
end Go.Proofs.YtnhcfmmdaihneaaGreatDoor
namespace Go.Proofs.YtnhcfmmdaihneaaGreatDoor
set_option maxRecDepth 100000
set_option maxHeartbeats 400000
set_option linter.unusedVariables false
set_option linter.unusedSimpArgs false
set_option linter.unusedSectionVars false
open Go.RowKit Pl
attribute [local irreducible] z0w z0x z0A AnsP LeP
theorem w_quo {a n : Nat} {K : Int → Prop} (h : a ≤ 9223372036854775807) (hk : K ((a / n : Nat) : Int)) : ∃ r, r = IntKind.i64.wrap ((a : Int).tdiv (n : Int)) ∧ K r := by
 have e : (a : Int).tdiv (n : Int) = ((a / n : Nat) : Int) := Int.ofNat_tdiv a n
 have : a / n ≤ a := Nat.div_le_self _ _
 have h2 : ((a / n : Nat) : Int) ≤ 9223372036854775807 := by generalize a / n = x at *; omega
 have h3 : (0 : Int) ≤ ((a / n : Nat) : Int) := Int.natCast_nonneg _
 generalize a / n = x at *
 exact ⟨_, by rw [e, z0J (by omega) h2], hk⟩
theorem zjL {a n : Nat} {K : Int → Prop} (h : a ≤ 9223372036854775807) (hk : K ((a / OfNat.ofNat n : Nat) : Int)) : ∃ r, r = IntKind.i64.wrap ((a : Int).tdiv (OfNat.ofNat n : Int)) ∧ K r := w_quo (n := OfNat.ofNat n) h hk
theorem zak {a n : Nat} {K : Int → Prop} (hk : K ((a % OfNat.ofNat n : Nat) : Int)) : ∃ r, r = (a : Int).tmod (OfNat.ofNat n : Int) ∧ K r :=
 ⟨_, (Int.ofNat_tmod a (OfNat.ofNat n)).symm, hk⟩
theorem wrap_u8 {n : Nat} : IntKind.u8.wrap (n : Int) = ((UInt8.ofNat n).toNat : Int) := by
 show (if (false && decide ((n : Int) % 2 ^ 8 ≥ 2 ^ (8 - 1))) = true then (n : Int) % 2 ^ 8 - 2 ^ 8 else (n : Int) % 2 ^ 8) = _
 simp
theorem w_u8 {n : Nat} {K : Int → Prop} (hk : K ((UInt8.ofNat n).toNat : Int)) : ∃ r, r = IntKind.u8.wrap (n : Int) ∧ K r := ⟨_, wrap_u8.symm, hk⟩
theorem z17 (l : Bs) : (z0C l).length = l.length := by simp [z0C]
theorem zjM {a n : Nat} {K : Int → Prop} (h : OfNat.ofNat n + a ≤ 9223372036854775807) (hk : K ((OfNat.ofNat n + a : Nat) : Int)) : ∃ r, r = IntKind.i64.wrap ((OfNat.ofNat n : Int) + (a : Int)) ∧ K r :=
 zkt (a := OfNat.ofNat n) h hk
theorem zgh (n : Nat) (hn : (n : Int) ≤ 2000000000) : CT Tryz.prog 119 [] [.int .i64 (n : Int)] (.str (z0r n)) [] := by
 have hvl := z1q hn
 refine z01 z0L 1 rfl Tryz.func119 rfl rfl rfl ?_
 repeat ((try conv => whnf); first | (refine stpQ ?_))
 refine z0H (Nat × Bs) (fun ⟨m, out⟩ => ⟨[(0, .int .i64 (m : Int)), (3, .ref 1)], [(1, some (.row 1 (z0C out)))], 2⟩) (fun ⟨m, out⟩ => out ++ z0r m = z0r n ∧ m ≤ n) (fun ⟨m, out⟩ => m) (n, []) ⟨rfl, Nat.le_refl _⟩ ?_ ?_
 ·(refine z02 (by rfl) ?_ ?_) <;> (repeat' (first | (exact eqA) | (refine shE ?_) | (refine And.intro ?_ ?_))) <;> first | rfl | decide
 ·rintro ⟨m, out⟩ ⟨h1, h2⟩
  have hol : out.length + (z0r m).length ≤ 5 := by
   have := congrArg List.length h1
   rw [List.length_append] at this
   omega
  have hbl := z17 out
  repeat ((try conv => whnf); first | (refine stpQ ?_))
  ((try conv => whnf); first | (refine cb_d (fun h => ?_) (fun h => ?_)) | (refine cb_n (fun h => ?_) (fun h => ?_)) | (refine cb (fun h => ?_) (fun h => ?_)))
  ·repeat ((try conv => whnf); first | (refine zak ?_) | (refine zjL (by omega) ?_) | (refine zjM (by omega) ?_) | (refine w_u8 ?_) | (refine And.intro (by simp [z17]; omega) ?_) | (refine stpQ ?_))
   refine ⟨(m / 128, out ++ [UInt8.ofNat (128 + m % 128)]), ⟨?_, ?_⟩, ?_, ?_⟩
   ·rw [← h1, z2F (n := m) (by omega)]; simp
   ·exact Nat.le_trans (Nat.div_le_self _ _) h2
   ·exact Nat.div_lt_self (by omega) (by omega)
   ·(refine z02 (by rfl) ?_ ?_) <;> (repeat' (first | (exact eqA) | (refine shE ?_) | (refine And.intro ?_ ?_)))
    simp [z0C, z6c]
    rfl
  ·repeat ((try conv => whnf); first | (refine w_u8 ?_) | (refine And.intro (by simp [z17]; omega) ?_) | (refine Exists.intro (out ++ [UInt8.ofNat m]) (And.intro (by simp [z0C, z6c]; first | done | fail) ?_)) | (refine stpQ ?_))
   rw [← h1, z1p (n := m) (by omega)]
   (refine z00 (by rfl) ?_ ?_ (by rfl)) <;> repeat' (first | (exact eqA) | (refine shE ?_) | (refine And.intro ?_ ?_))
theorem z95 {n : Nat} (hn : (n : Int) ≤ 2000000000) : ((z0r n).length : Int) ≤ 5 := by have := z1q hn; omega
theorem zbO (s : Bs) (hs : (s.length : Int) ≤ 1000000000) : CT Tryz.prog 120 [] [.str s] (.str (z0v s)) [] := by
 have hvl := z95 (n := s.length) (by omega)
 refine z01 z0L 1 rfl Tryz.func120 rfl rfl rfl ?_
 repeat ((try conv => whnf); first | (refine ccA ([]) (zgh s.length (by omega)) ?_) | (refine stpQ ?_))
 (refine z00 (by rfl) ?_ ?_ (by rfl)) <;> repeat' (first | (exact eqA) | (refine shE ?_) | (refine And.intro ?_ ?_))
 rfl
def Sml (l : List Lf) : Prop := (l.length : Int) ≤ 1000 ∧ ∀ i, ((lfAt l i).1.length : Int) ≤ 1000000 ∧ ((lfAt l i).2.length : Int) ≤ 1000000
end Go.Proofs.YtnhcfmmdaihneaaGreatDoor
