/- Functions by content: words of 32 bits, and the reference's digest. Functions by content: the reference's block. Functions by content: the reference's digest. -/
import Derived.Test.YtgmbkbggnlponaaGreatDoorFa
import Derived.Test.YtgmbkbggnlponaaGreatDoorVd
import Derived.Test.YtgmbkbggnlponaaGreatDoorPlainM
import Derived.Laws.BitsAllLaws
import Derived.Laws.Bits64
namespace Go.Proofs.YtgmbkbggnlponaaGreatDoor
set_option maxRecDepth 100000
set_option maxHeartbeats 4000000
set_option linter.unusedVariables false
set_option linter.unusedSimpArgs false
set_option linter.unusedSectionVars false
open Go.RowKit Pl
attribute [local irreducible] z0t z0u z0y AnsP LeP
def ttL2 : List (Nat × Ty) := ttL ++ [
 (157, ⟨8, 32, List.replicate 8 (.int .u32 0), .array 8 156, false⟩),
 (163, ⟨64, 256, List.replicate 64 (.int .u32 0), .array 64 156, false⟩)]
def tt2 : TT := lk ttL2
theorem z80 : TtOk Tryz.prog tt2 := fun t y h => by
 have hm : (t, y) ∈ ttL2 := z1P h
 rcases List.mem_append.1 hm with h | h
 ·exact z9Q (t, y) h
 ·simp only [List.mem_cons, List.not_mem_nil, or_false, Prod.mk.injEq] at h
  rcases h with ⟨rfl, rfl⟩ | ⟨rfl, rfl⟩
  ·exact ⟨⟨_, _, rfl, rfl, rfl, rfl, rfl⟩, ⟨_, rfl, rfl⟩, rfl, rfl, fun h => (Bool.false_ne_true h).elim⟩
  ·exact ⟨⟨_, _, rfl, rfl, rfl, rfl, rfl⟩, ⟨_, rfl, rfl⟩, rfl, rfl, fun h => (Bool.false_ne_true h).elim⟩
theorem z8V (n : Nat) : IntKind.u32.wrap (n : Int) = ((UInt32.ofNat n).toNat : Int) := by
 show (if (false && decide ((n : Int) % 2 ^ 32 ≥ 2 ^ (32 - 1))) = true then (n : Int) % 2 ^ 32 - 2 ^ 32 else (n : Int) % 2 ^ 32) = _
 simp
theorem zdr {a b : UInt32} {K : Int → Prop} (hk : K ((a + b).toNat : Int)) : ∃ r, r = IntKind.u32.wrap ((a.toNat : Int) + (b.toNat : Int)) ∧ K r := by
 refine ⟨_, ?_, hk⟩
 have e : (a.toNat : Int) + (b.toNat : Int) = ((a.toNat + b.toNat : Nat) : Int) := by omega
 rw [e, z8V, UInt32.toNat_add, UInt32.toNat_ofNat']
theorem zds {a b : UInt32} {K : Int → Prop} (hk : K ((a ^^^ b).toNat : Int)) : ∃ r, r = bits .xor .u32 (a.toNat : Int) (b.toNat : Int) ∧ K r :=
 ⟨_, by rw [u32_xor_nat _ _ a.toNat_lt b.toNat_lt, UInt32.toNat_xor], hk⟩
theorem u_xorF {a : UInt32} {K : Int → Prop} (hk : K ((a ^^^ 4294967295).toNat : Int)) : ∃ r, r = bits .xor .u32 (a.toNat : Int) 4294967295 ∧ K r := zds (b := 4294967295) hk
theorem u_and {a b : UInt32} {K : Int → Prop} (hk : K ((a &&& b).toNat : Int)) : ∃ r, r = bits .and .u32 (a.toNat : Int) (b.toNat : Int) ∧ K r :=
 ⟨_, by rw [u32_and_nat _ _ a.toNat_lt b.toNat_lt, UInt32.toNat_and], hk⟩
theorem u_or {a b : UInt32} {K : Int → Prop} (hk : K ((a ||| b).toNat : Int)) : ∃ r, r = bits .or .u32 (a.toNat : Int) (b.toNat : Int) ∧ K r :=
 ⟨_, by rw [u32_or_nat _ _ a.toNat_lt b.toNat_lt, UInt32.toNat_or], hk⟩
theorem za5 {a : UInt32} {e : Int} {n : Nat} {K : Int → Prop} (he : e.toNat = n) (hk : K ((shlN a n).toNat : Int)) : ∃ r, r = IntKind.u32.wrap ((a.toNat : Int) * 2 ^ e.toNat) ∧ K r := by
 refine ⟨_, ?_, hk⟩
 have e2 : (a.toNat : Int) * 2 ^ e.toNat = ((a.toNat * 2 ^ n : Nat) : Int) := by rw [he]; simp
 rw [e2, z8V]; rfl
theorem z5M {a : UInt32} {e : Int} {n : Nat} {K : Int → Prop} (he : e.toNat = n) (hk : K ((shrN a n).toNat : Int)) : ∃ r, r = (a.toNat : Int) / 2 ^ e.toNat ∧ K r := by
 refine ⟨_, ?_, hk⟩
 have h1 : a.toNat / 2 ^ n ≤ a.toNat := Nat.div_le_self _ _
 have h2 := a.toNat_lt
 rw [he, shrN, UInt32.toNat_ofNat', Nat.mod_eq_of_lt (by omega)]; simp
theorem u_of8 {b : UInt8} {K : Int → Prop} (hk : K ((o8 b).toNat : Int)) : ∃ r, r = IntKind.u32.wrap ((b.toNat : Nat) : Int) ∧ K r := ⟨_, by rw [z8V]; rfl, hk⟩
theorem le32 {b : Int} (h : b ≤ 32) : b ≤ ((IntKind.u32.bits : Nat) : Int) := h
theorem z81 {a n : Nat} {K : Int → Prop} (h : OfNat.ofNat n * a ≤ 9223372036854775807) (hk : K ((OfNat.ofNat n * a : Nat) : Int)) : ∃ r, r = IntKind.i64.wrap ((OfNat.ofNat n : Int) * (a : Int)) ∧ K r :=
 w_mul (a := OfNat.ofNat n) h hk
def wE (l : List UInt32) : List T := l.map fun x => .int .u32 (x.toNat : Int)
theorem wE_at {l : List UInt32} {i : Nat} (h : i < l.length) : (wE l)[i]? = some (.int .u32 ((l.getD i 0).toNat : Int)) := by simp [wE, List.getD, List.getElem?_eq_getElem h]
def vE (f : Nat → UInt32) (n : Nat) : List T := (List.range n).map fun j => .int .u32 ((f j).toNat : Int)
theorem za6 (f : Nat → UInt32) (n : Nat) : (vE f n).length = n := by simp [vE]
theorem zgj {f : Nat → UInt32} {n i : Nat} (h : i < n) : (vE f n)[i]? = some (.int .u32 ((f i).toNat : Int)) := by simp [vE, h]
theorem vE_set {f : Nat → UInt32} {n i : Nat} (x : UInt32) : (vE f n).set i (.int .u32 (x.toNat : Int)) = vE (upd f i x) n := by
 apply List.ext_getElem?
 intro j
 rw [List.getElem?_set]
 by_cases hj : i = j
 ·subst hj
  simp only [if_true, za6]
  by_cases hn : i < n
  ·rw [if_pos hn, zgj hn]; simp [upd]
  ·rw [if_neg hn, List.getElem?_eq_none (by rw [za6]; omega)]
 ·rw [if_neg hj]
  by_cases hn : j < n
  ·have : Nat.beq j i = false := by
    cases hb : Nat.beq j i with
    | false => rfl
    | true => exact absurd (Nat.eq_of_beq_eq_true hb).symm hj
   rw [zgj hn, zgj hn, upd, this]; rfl
  ·rw [List.getElem?_eq_none (by rw [za6]; omega), List.getElem?_eq_none (by rw [za6]; omega)]
theorem zcz (σ : Sub) (H : Hp) : ∀ (l : List T), (∀ x ∈ l, ∃ k n, x = .int k n) → Ml σ H l l
 | [], _ => rfl
 | x :: l, h => by
   obtain ⟨k, n, rfl⟩ := h x (by simp)
   exact ⟨⟨rfl, rfl⟩, zcz σ H l fun y hy => h y (by simp [hy])⟩
theorem z11 (σ : Sub) (H : Hp) (f : Nat → UInt32) (n : Nat) : Ml σ H (vE f n) (vE f n) := zcz σ H _ fun x hx => by
 simp only [vE, List.mem_map] at hx
 obtain ⟨j, _, rfl⟩ := hx
 exact ⟨_, _, rfl⟩
theorem z4c (x : UInt32) (n : Nat) (hn : 0 < n ∧ n < 32) : CT Tryz.prog 169 [] [.int .u32 (x.toNat : Int), .int .u64 (n : Int)] (.int .u32 ((z2A x n).toNat : Int)) [] := by
 have hsub : IntKind.u64.wrap (32 - (n : Int)) = ((32 - n : Nat) : Int) := by rw [IntKind.wrap_u64]; omega
 refine z01 z0m 1 rfl Tryz.func169 rfl rfl rfl ?_
 repeat ((try conv => whnf); first | (refine Exists.intro _ (And.intro hsub.symm ?_)) | (refine And.intro (le32 (by omega)) ?_) | (refine z5M (n := n) (by omega) ?_) | (refine za5 (n := 32 - n) (by omega) ?_) | (refine u_or ?_) | (refine stpQ ?_))
 (refine z00 (by rfl) ?_ ?_ (by rfl)) <;> (repeat' (first | (exact eqA) | (refine shE ?_) | (refine And.intro ?_ ?_)))
 rfl
theorem zhT : CT Tryz.prog 143 [] [] (.agg (wE first8.list)) [] := by
 refine z01 z80 1 rfl Tryz.func143 rfl rfl rfl ?_
 repeat ((try conv => whnf); first | (refine stpQ ?_))
 (refine z00 (by rfl) ?_ ?_ (by rfl)) <;> (repeat' (first | (exact eqA) | (refine shE ?_) | (refine And.intro ?_ ?_))) <;> first | rfl | decide
theorem c_keys : CT Tryz.prog 144 [] [] (.agg (vE kF 64)) [] := by
 refine z01 z80 1 rfl Tryz.func144 rfl rfl rfl ?_
 repeat ((try conv => whnf); first | (refine stpQ ?_))
 (refine z00 (by rfl) ?_ ?_ (by rfl)) <;> (repeat' (first | (exact eqA) | (refine shE ?_) | (refine And.intro ?_ ?_))) <;> first | rfl | decide
end Go.Proofs.YtgmbkbggnlponaaGreatDoor
namespace Go.Proofs.YtgmbkbggnlponaaGreatDoor
set_option linter.unusedVariables false
set_option linter.unusedSimpArgs false
set_option linter.unusedSectionVars false
open Go.RowKit Pl
attribute [local irreducible] z0t z0u z0y AnsP LeP bits z2A shlN shrN
theorem v_at {f : Nat → UInt32} {n i : Nat} {K : T → Prop} (h : i < n) (hk : K (.int .u32 ((f i).toNat : Int))) : ∃ c, (vE f n)[0 + i * 1]? = some c ∧ K c := ⟨_, by rw [Nat.zero_add, Nat.mul_one]; exact zgj h, hk⟩
theorem v_st (f : Nat → UInt32) (n i : Nat) (x : UInt32) : ovl (vE f n) (0 + i * 1) [.int .u32 (x.toNat : Int)] = vE (upd f i x) n := by
 rw [Nat.zero_add, Nat.mul_one]; exact vE_set x
theorem v_in {f : Nat → UInt32} {n i : Nat} (h : i < n) : 0 + i * 1 + 1 ≤ (vE f n).length := by rw [za6]; omega
theorem z82 {base : Nat} {sl : List (Nat × T)} {hp : List (Nat × Option Ent)} {nx : Nat} {S' : St} {r : Nat} {cs cs' : List T} (h : cs = cs') (hl : LeP base ⟨sl, (r, some (.box cs')) :: hp, nx⟩ S') : LeP base ⟨sl, (r, some (.box cs)) :: hp, nx⟩ S' := h ▸ hl
set_option maxRecDepth 100000 in
set_option maxHeartbeats 16000000 in
theorem zhU (h : W8) (b : Bs) (ks : Nat → UInt32) (hb : b.length = 64) : CT Tryz.prog 146 [] [.agg (wE h.list), .str b, .agg (vE ks 64)] (.agg (wE (z7Z h b ks).list)) [] := by
 refine z01 z80 1 rfl Tryz.func146 rfl rfl rfl ?_
 unfold z7Z
 repeat ((try conv => whnf); first | (refine And.intro (by kernel_rfl) ?_) | (refine stpQ ?_))
 refine z0h 0 ⟨[(3, .ptr 1 0 0), (5, .ptr 2 0 0), (6, .ptr 3 0 0), (7, .ptr 4 0 0)], [(1, some (.box (wE h.list))), (2, some (.box (vE ks 64))), (3, some (.box (List.replicate 8 (.int .u32 0)))), (4, some (.box (vE (z3v b 16) 64)))], 5⟩ Nat (fun i => ⟨[(1, .str b), (3, .ptr 1 0 0), (5, .ptr 2 0 0), (6, .ptr 3 0 0), (7, .ptr 4 0 0), (8, .int .i64 (i : Int))], [(1, some (.box (wE h.list))), (2, some (.box (vE ks 64))), (3, some (.box (List.replicate 8 (.int .u32 0)))), (4, some (.box (vE (z3v b i) 64)))], 5⟩) (fun i => i ≤ 16) (fun i => 16 - i) 0 (by omega) ?_ ?_ ?_
 ·(refine z02 (by rfl) ?_ ?_) <;> ((repeat' (first | (exact trivial) | (exact z11 _ _ _ _) | (with_reducible rfl) | (exact (rfl : _ = true)) | (exact (rfl : _ = some _)) | (exact (rfl : _ = none)) | (refine And.intro ?_ ?_) | ((show (_ : Int) = _); omega) | ((fail_if_success (with_reducible (show _ = _))); (show _ = _))))) <;> first | rfl | decide
 ·intro i hi
  by_cases hlt : i < 16
  ·have hst := v_st (z3v b i) 64 i (zgi b i)
   rw [← z6F] at hst
   repeat ((try conv => whnf); first | (refine z81 (by omega) ?_) | (refine u_of8 ?_) | (refine And.intro (le32 (by omega)) ?_) | (refine za5 (n := 24) rfl ?_) | (refine za5 (n := 16) rfl ?_) | (refine za5 (n := 8) rfl ?_) | (refine u_or ?_) | (refine And.intro (v_in (by omega)) ?_) | (refine And.intro (by kernel_rfl) ?_) | (refine stpQ ?_))
   refine ⟨i + 1, by omega, by omega, z82 hst ?_⟩
   (refine z02 (by rfl) ?_ ?_) <;> ((repeat' (first | (exact trivial) | (exact z11 _ _ _ _) | (with_reducible rfl) | (exact (rfl : _ = true)) | (exact (rfl : _ = some _)) | (exact (rfl : _ = none)) | (refine And.intro ?_ ?_) | ((show (_ : Int) = _); omega) | ((fail_if_success (with_reducible (show _ = _))); (show _ = _))))) <;> try rfl
  ·have hi16 : i = 16 := by omega
   rw [hi16]
   repeat ((try conv => whnf); first | (refine And.intro (by kernel_rfl) ?_) | (refine stpQ ?_))
   (refine z02 (by rfl) ?_ ?_) <;> ((repeat' (first | (exact trivial) | (exact z11 _ _ _ _) | (with_reducible rfl) | (exact (rfl : _ = true)) | (exact (rfl : _ = some _)) | (exact (rfl : _ = none)) | (refine And.intro ?_ ?_) | ((show (_ : Int) = _); omega) | ((fail_if_success (with_reducible (show _ = _))); (show _ = _))))) <;> try rfl
 ·generalize z3v b 16 = w0
  repeat ((try conv => whnf); first | (refine And.intro (by kernel_rfl) ?_) | (refine stpQ ?_))
  refine z0h 2 ⟨[(3, .ptr 1 0 0), (5, .ptr 2 0 0), (6, .ptr 3 0 0), (7, .ptr 4 0 0)], [(1, some (.box (wE h.list))), (2, some (.box (vE ks 64))), (3, some (.box (List.replicate 8 (.int .u32 0)))), (4, some (.box (vE (z39 w0 64) 64)))], 5⟩ Nat (fun i => ⟨[(3, .ptr 1 0 0), (5, .ptr 2 0 0), (6, .ptr 3 0 0), (7, .ptr 4 0 0), (9, .int .i64 (i : Int))], [(1, some (.box (wE h.list))), (2, some (.box (vE ks 64))), (3, some (.box (List.replicate 8 (.int .u32 0)))), (4, some (.box (vE (z39 w0 i) 64)))], 5⟩) (fun i => 16 ≤ i ∧ i ≤ 64) (fun i => 64 - i) 16 ⟨by omega, by omega⟩ ?_ ?_ ?_
  ·(refine z02 (by rfl) ?_ ?_) <;> ((repeat' (first | (exact trivial) | (exact z11 _ _ _ _) | (with_reducible rfl) | (exact (rfl : _ = true)) | (exact (rfl : _ = some _)) | (exact (rfl : _ = none)) | (refine And.intro ?_ ?_) | ((show (_ : Int) = _); omega) | ((fail_if_success (with_reducible (show _ = _))); (show _ = _))))) <;> first | rfl | decide
  ·intro i hii
   have hi : 16 ≤ i := hii.1
   have hi2 : i ≤ 64 := hii.2
   by_cases hlt : i < 64
   ·have hnx := z6G (ws := w0) hi
    generalize z39 w0 i = f at hnx ⊢
    have hst := v_st f 64 i (f (i - 16) + (z2A (f (i - 15)) 7 ^^^ z2A (f (i - 15)) 18 ^^^ shrN (f (i - 15)) 3) + f (i - 7) + (z2A (f (i - 2)) 17 ^^^ z2A (f (i - 2)) 19 ^^^ shrN (f (i - 2)) 10))
    rw [show upd f i _ = z4O f i from rfl, ← hnx] at hst
    repeat ((try conv => whnf); first | (refine v_at (by omega) ?_) | (refine ccA ([]) (z4c (f (i - 15)) 7 (by decide)) ?_) | (refine ccA ([]) (z4c (f (i - 15)) 18 (by decide)) ?_) | (refine ccA ([]) (z4c (f (i - 2)) 17 (by decide)) ?_) | (refine ccA ([]) (z4c (f (i - 2)) 19 (by decide)) ?_) | (refine And.intro (le32 (by omega)) ?_) | (refine z5M (n := 3) rfl ?_) | (refine z5M (n := 10) rfl ?_) | (refine zds ?_) | (refine zdr ?_) | (refine And.intro (v_in (by omega)) ?_) | (refine And.intro (by kernel_rfl) ?_) | (refine stpQ ?_))
    refine ⟨i + 1, ⟨by omega, by omega⟩, by omega, z82 hst ?_⟩
    (refine z02 (by rfl) ?_ ?_) <;> ((repeat' (first | (exact trivial) | (exact z11 _ _ _ _) | (with_reducible rfl) | (exact (rfl : _ = true)) | (exact (rfl : _ = some _)) | (exact (rfl : _ = none)) | (refine And.intro ?_ ?_) | ((show (_ : Int) = _); omega) | ((fail_if_success (with_reducible (show _ = _))); (show _ = _))))) <;> try rfl
   ·have hi64 : i = 64 := by omega
    rw [hi64]
    repeat ((try conv => whnf); first | (refine And.intro (by kernel_rfl) ?_) | (refine stpQ ?_))
    (refine z02 (by rfl) ?_ ?_) <;> ((repeat' (first | (exact trivial) | (exact z11 _ _ _ _) | (with_reducible rfl) | (exact (rfl : _ = true)) | (exact (rfl : _ = some _)) | (exact (rfl : _ = none)) | (refine And.intro ?_ ?_) | ((show (_ : Int) = _); omega) | ((fail_if_success (with_reducible (show _ = _))); (show _ = _))))) <;> try rfl
  ·generalize z39 w0 64 = w
   repeat ((try conv => whnf); first | (refine And.intro (by kernel_rfl) ?_) | (refine stpQ ?_))
   refine z0h 4 ⟨[(3, .ptr 1 0 0), (6, .ptr 3 0 0), (12, .ptr 5 0 0)], [(1, some (.box (wE h.list))), (3, some (.box (List.replicate 8 (.int .u32 0)))), (5, some (.box (wE (rnds h ks w 64).list)))], 6⟩ Nat (fun i => ⟨[(3, .ptr 1 0 0), (5, .ptr 2 0 0), (6, .ptr 3 0 0), (7, .ptr 4 0 0), (12, .ptr 5 0 0), (13, .int .i64 (i : Int))], [(1, some (.box (wE h.list))), (2, some (.box (vE ks 64))), (3, some (.box (List.replicate 8 (.int .u32 0)))), (4, some (.box (vE w 64))), (5, some (.box (wE (rnds h ks w i).list)))], 6⟩) (fun i => i ≤ 64) (fun i => 64 - i) 0 (by omega) ?_ ?_ ?_
   ·(refine z02 (by rfl) ?_ ?_) <;> ((repeat' (first | (exact trivial) | (exact z11 _ _ _ _) | (with_reducible rfl) | (exact (rfl : _ = true)) | (exact (rfl : _ = some _)) | (exact (rfl : _ = none)) | (refine And.intro ?_ ?_) | ((show (_ : Int) = _); omega) | ((fail_if_success (with_reducible (show _ = _))); (show _ = _))))) <;> first | rfl | decide
   ·intro i hi
    by_cases hlt : i < 64
    ·have hnx := za1 h ks w i
     generalize rnds h ks w i = s at hnx ⊢
     repeat ((try conv => whnf); first | (refine v_at (by omega) ?_) | (refine ccA ([]) (z4c s.e 6 (by decide)) ?_) | (refine ccA ([]) (z4c s.e 11 (by decide)) ?_) | (refine ccA ([]) (z4c s.e 25 (by decide)) ?_) | (refine ccA ([]) (z4c s.a 2 (by decide)) ?_) | (refine ccA ([]) (z4c s.a 13 (by decide)) ?_) | (refine ccA ([]) (z4c s.a 22 (by decide)) ?_) | (refine u_and ?_) | (refine u_xorF ?_) | (refine zds ?_) | (refine zdr ?_) | (refine And.intro (by kernel_rfl) ?_) | (refine stpQ ?_))
     refine ⟨i + 1, by omega, by omega, ?_⟩
     rw [hnx]
     (refine z02 (by rfl) ?_ ?_) <;> ((repeat' (first | (exact trivial) | (exact z11 _ _ _ _) | (with_reducible rfl) | (exact (rfl : _ = true)) | (exact (rfl : _ = some _)) | (exact (rfl : _ = none)) | (refine And.intro ?_ ?_) | ((show (_ : Int) = _); omega) | ((fail_if_success (with_reducible (show _ = _))); (show _ = _))))) <;> first | rfl | decide
    ·have hi64 : i = 64 := by omega
     rw [hi64]
     repeat ((try conv => whnf); first | (refine And.intro (by kernel_rfl) ?_) | (refine stpQ ?_))
     (refine z02 (by rfl) ?_ ?_) <;> ((repeat' (first | (exact trivial) | (exact z11 _ _ _ _) | (with_reducible rfl) | (exact (rfl : _ = true)) | (exact (rfl : _ = some _)) | (exact (rfl : _ = none)) | (refine And.intro ?_ ?_) | ((show (_ : Int) = _); omega) | ((fail_if_success (with_reducible (show _ = _))); (show _ = _))))) <;> first | rfl | decide
   ·generalize rnds h ks w 64 = s
    repeat ((try conv => whnf); first | (refine And.intro (by kernel_rfl) ?_) | (refine stpQ ?_))
    refine z0h 6 ⟨[(3, .ptr 1 0 0), (6, .ptr 3 0 0)], [(1, some (.box (vE (addW h.fn s.fn 8) 8))), (3, some (.box (List.replicate 8 (.int .u32 0))))], 6⟩ Nat (fun i => ⟨[(3, .ptr 1 0 0), (6, .ptr 3 0 0), (12, .ptr 5 0 0), (20, .int .i64 (i : Int))], [(1, some (.box (vE (addW h.fn s.fn i) 8))), (3, some (.box (List.replicate 8 (.int .u32 0)))), (5, some (.box (vE s.fn 8)))], 6⟩) (fun i => i ≤ 8) (fun i => 8 - i) 0 (by omega) ?_ ?_ ?_
    ·(refine z02 (by rfl) ?_ ?_) <;> ((repeat' (first | (exact trivial) | (exact z11 _ _ _ _) | (with_reducible rfl) | (exact (rfl : _ = true)) | (exact (rfl : _ = some _)) | (exact (rfl : _ = none)) | (refine And.intro ?_ ?_) | ((show (_ : Int) = _); omega) | ((fail_if_success (with_reducible (show _ = _))); (show _ = _))))) <;> first | rfl | decide
    ·intro i hi
     by_cases hlt : i < 8
     ·have hnx := z6H h.fn s.fn i
      generalize addW h.fn s.fn i = f at hnx ⊢
      have hst := v_st f 8 i (f i + s.fn i)
      rw [← hnx] at hst
      repeat ((try conv => whnf); first | (refine v_at (by omega) ?_) | (refine zdr ?_) | (refine And.intro (v_in (by omega)) ?_) | (refine And.intro (by kernel_rfl) ?_) | (refine stpQ ?_))
      refine ⟨i + 1, by omega, by omega, z82 hst ?_⟩
      (refine z02 (by rfl) ?_ ?_) <;> ((repeat' (first | (exact trivial) | (exact z11 _ _ _ _) | (with_reducible rfl) | (exact (rfl : _ = true)) | (exact (rfl : _ = some _)) | (exact (rfl : _ = none)) | (refine And.intro ?_ ?_) | ((show (_ : Int) = _); omega) | ((fail_if_success (with_reducible (show _ = _))); (show _ = _))))) <;> try rfl
     ·have hi8 : i = 8 := by omega
      rw [hi8]
      repeat ((try conv => whnf); first | (refine And.intro (by kernel_rfl) ?_) | (refine stpQ ?_))
      (refine z02 (by rfl) ?_ ?_) <;> ((repeat' (first | (exact trivial) | (exact z11 _ _ _ _) | (with_reducible rfl) | (exact (rfl : _ = true)) | (exact (rfl : _ = some _)) | (exact (rfl : _ = none)) | (refine And.intro ?_ ?_) | ((show (_ : Int) = _); omega) | ((fail_if_success (with_reducible (show _ = _))); (show _ = _))))) <;> try rfl
    ·have hf : ∀ j, j < 8 → addW h.fn s.fn 8 j = h.fn j + s.fn j := fun j hj => by rw [z8S, if_pos hj]
     generalize addW h.fn s.fn 8 = f at hf ⊢
     repeat ((try conv => whnf); first | (refine And.intro (by kernel_rfl) ?_) | (refine stpQ ?_))
     (refine z00 (by rfl) ?_ ?_ (by rfl)) <;> ((repeat' (first | (exact trivial) | (exact z11 _ _ _ _) | (with_reducible rfl) | (exact (rfl : _ = true)) | (exact (rfl : _ = some _)) | (exact (rfl : _ = none)) | (refine And.intro ?_ ?_) | ((show (_ : Int) = _); omega) | ((fail_if_success (with_reducible (show _ = _))); (show _ = _)))))
     all_goals first
      | (rw [hf _ (by decide)]; rfl)
      | rfl
end Go.Proofs.YtgmbkbggnlponaaGreatDoor
namespace Go.Proofs.YtgmbkbggnlponaaGreatDoor
set_option maxRecDepth 100000
set_option maxHeartbeats 8000000
set_option linter.unusedVariables false
set_option linter.unusedSimpArgs false
set_option linter.unusedSectionVars false
open Go.RowKit Pl
attribute [local irreducible] z0t z0u z0y AnsP LeP
theorem bset (l : Bs) (i : Nat) (b : UInt8) : (z0f l).set i [.int .u8 (b.toNat : Int)] = z0f (l.set i b) := by simp [z0f, z49, List.map_set]
theorem bget {c : Bs} {i : Nat} (h : i < c.length) : (z0f c)[i]? = some [.int .u8 ((c.getD i 0).toNat : Int)] := by
 simp [z0f, z49, List.getD, List.getElem?_eq_getElem h]
theorem za7 (n i : Nat) : lenB n (i + 1) = lenB n i ++ [UInt8.ofNat (n / 2 ^ (8 * (7 - i)))] := by simp [lenB, List.range_succ]
theorem zcA (n i : Nat) : (lenB n i).length = i := by simp [lenB]
theorem c_pad (t : Bs) (ht : (t.length : Int) ≤ 100000000) : CT Tryz.prog 145 [] [.str t] (.str (padB t)) [] := by
 refine z01 z0m 1 rfl Tryz.func145 rfl rfl rfl ?_
 have hz := z6I 64 (t ++ [128]) (by omega)
 simp only [List.length_append, List.length_singleton] at hz
 unfold padB
 repeat ((try conv => whnf); first | (refine And.intro (by simp [z0F]; omega) ?_) | (refine And.intro (by kernel_rfl) ?_) | (refine stpQ ?_))
 refine z0h 0 ⟨[(0, .str t), (3, .ref 1)], [(1, some (.row 1 (z0f (z0W 64 (t ++ [128])))))], 2⟩ Nat (fun j => ⟨[(0, .str t), (3, .ref 1)], [(1, some (.row 1 (z0f (t ++ [128] ++ List.replicate j 0))))], 2⟩) (fun j => j ≤ 64 ∧ z0W (64 - j) (t ++ [128] ++ List.replicate j 0) = z0W 64 (t ++ [128])) (fun j => 64 - j) 0 ⟨by omega, by simp⟩ ?_ ?_ ?_
 ·(refine z02 (by rfl) ?_ ?_) <;> ((repeat' (first | (exact trivial) | (exact z11 _ _ _ _) | (with_reducible rfl) | (exact (rfl : _ = true)) | (exact (rfl : _ = some _)) | (exact (rfl : _ = none)) | (refine And.intro ?_ ?_) | ((show (_ : Int) = _); omega) | ((fail_if_success (with_reducible (show _ = _))); (show _ = _))))) <;> try rfl
  simp [z0f, z49]
 ·intro j hjj
  have hj : j ≤ 64 := hjj.1
  have hzj := hjj.2
  generalize ho : t ++ [128] ++ List.replicate j 0 = out at hzj ⊢
  have hol : out.length = t.length + 1 + j := by rw [← ho]; simp; omega
  have hbl := z0F out
  by_cases h56 : out.length % 64 = 56
  ·have e : z0W 64 (t ++ [128]) = out := by
    rw [← hzj]
    cases hf : 64 - j with
    | zero => rfl
    | succ f => rw [z0W, if_pos h56]
   rw [e]
   repeat ((try conv => whnf); first | (refine Exists.intro out.length (And.intro hbl ?_)) | (refine z2Y ?_) | (refine And.intro (by kernel_rfl) ?_) | (refine stpQ ?_))
   (refine z02 (by rfl) ?_ ?_) <;> ((repeat' (first | (exact trivial) | (exact z11 _ _ _ _) | (with_reducible rfl) | (exact (rfl : _ = true)) | (exact (rfl : _ = some _)) | (exact (rfl : _ = none)) | (refine And.intro ?_ ?_) | ((show (_ : Int) = _); omega) | ((fail_if_success (with_reducible (show _ = _))); (show _ = _))))) <;> try rfl
  ·have hj64 : j < 64 := by
    rcases Nat.lt_or_ge j 64 with h | h
    ·exact h
    ·have : j = 64 := by omega
     subst this
     have e : out = z0W 64 (t ++ [128]) := hzj
     rw [← e] at hz
     exact absurd hz.1 h56
   repeat ((try conv => whnf); first | (refine Exists.intro out.length (And.intro hbl ?_)) | (refine z2Y ?_) | (refine And.intro (by simp [z0F]; omega) ?_) | (refine And.intro (by kernel_rfl) ?_) | (refine stpQ ?_))
   refine ⟨j + 1, ⟨by omega, ?_⟩, by omega, ?_⟩
   ·rw [← hzj, show 64 - j = (64 - (j + 1)) + 1 by omega, z0W, if_neg h56, ← ho]
    simp [List.replicate_succ']
   ·(refine z02 (by rfl) ?_ ?_) <;> ((repeat' (first | (exact trivial) | (exact z11 _ _ _ _) | (with_reducible rfl) | (exact (rfl : _ = true)) | (exact (rfl : _ = some _)) | (exact (rfl : _ = none)) | (refine And.intro ?_ ?_) | ((show (_ : Int) = _); omega) | ((fail_if_success (with_reducible (show _ = _))); (show _ = _))))) <;> try rfl
    rw [← ho]
    simp [z0f, z49, List.replicate_succ']
 ·generalize z0W 64 (t ++ [128]) = z at hz ⊢
  repeat ((try conv => whnf); first | (refine z81 (by omega) ?_) | (refine And.intro (by kernel_rfl) ?_) | (refine stpQ ?_))
  refine z0h 2 ⟨[(3, .ref 1)], [(1, some (.row 1 (z0f (z ++ lenB (8 * t.length) 8))))], 2⟩ Nat (fun j => ⟨[(3, .ref 1), (4, .int .i64 ((8 * t.length : Nat) : Int)), (5, .int .i64 (7 - (j : Int)))], [(1, some (.row 1 (z0f (z ++ lenB (8 * t.length) j))))], 2⟩) (fun j => j ≤ 8) (fun j => 8 - j) 0 (by omega) ?_ ?_ ?_
  ·(refine z02 (by rfl) ?_ ?_) <;> ((repeat' (first | (exact trivial) | (exact z11 _ _ _ _) | (with_reducible rfl) | (exact (rfl : _ = true)) | (exact (rfl : _ = some _)) | (exact (rfl : _ = none)) | (refine And.intro ?_ ?_) | ((show (_ : Int) = _); omega) | ((fail_if_success (with_reducible (show _ = _))); (show _ = _))))) <;> try rfl
   simp [lenB]
  ·intro j hj
   by_cases hj8 : j < 8
   ·have hnx := za7 (8 * t.length) j
    have hll := zcA (8 * t.length) j
    generalize 8 * t.length = n at hnx hll ⊢
    generalize lenB n j = o at hnx hll ⊢
    have hol : (z0f (z ++ o)).length = z.length + o.length := by rw [z0F, List.length_append]
    have e1 : IntKind.u64.wrap (7 - (j : Int)) = ((7 - j : Nat) : Int) := by rw [IntKind.wrap_u64]; omega
    have e2 : IntKind.u64.wrap (8 * ((7 - j : Nat) : Int)) = ((8 * (7 - j) : Nat) : Int) := by rw [IntKind.wrap_u64]; omega
    have e3 : (n : Int) / 2 ^ (((8 * (7 - j) : Nat) : Int)).toNat = ((n / 2 ^ (8 * (7 - j)) : Nat) : Int) := by rw [Int.toNat_natCast]; simp
    repeat ((try conv => whnf); first | (refine Exists.intro _ (And.intro e1.symm ?_)) | (refine Exists.intro _ (And.intro e2.symm ?_)) | (refine And.intro (show _ ≤ (64 : Int) from by omega) ?_) | (refine Exists.intro _ (And.intro e3.symm ?_)) | (refine w_u8 ?_) | (refine And.intro (by simp [z0F]; omega) ?_) | (refine And.intro (by kernel_rfl) ?_) | (refine stpQ ?_))
    refine ⟨j + 1, by omega, by omega, ?_⟩
    rw [hnx]
    (refine z02 (by rfl) ?_ ?_) <;> ((repeat' (first | (exact trivial) | (exact z11 _ _ _ _) | (with_reducible rfl) | (exact (rfl : _ = true)) | (exact (rfl : _ = some _)) | (exact (rfl : _ = none)) | (refine And.intro ?_ ?_) | ((show (_ : Int) = _); omega) | ((fail_if_success (with_reducible (show _ = _))); (show _ = _))))) <;> try rfl
    simp [z0f, z49]
   ·have hj8 : j = 8 := by omega
    rw [hj8]
    repeat ((try conv => whnf); first | (refine And.intro (by kernel_rfl) ?_) | (refine stpQ ?_))
    (refine z02 (by rfl) ?_ ?_) <;> ((repeat' (first | (exact trivial) | (exact z11 _ _ _ _) | (with_reducible rfl) | (exact (rfl : _ = true)) | (exact (rfl : _ = some _)) | (exact (rfl : _ = none)) | (refine And.intro ?_ ?_) | ((show (_ : Int) = _); omega) | ((fail_if_success (with_reducible (show _ = _))); (show _ = _))))) <;> try rfl
  ·generalize z ++ lenB (8 * t.length) 8 = p
   repeat ((try conv => whnf); first | (refine Exists.intro p (And.intro rfl ?_)) | (refine And.intro (by kernel_rfl) ?_) | (refine stpQ ?_))
   (refine z00 (by rfl) ?_ ?_ (by rfl)) <;> ((repeat' (first | (exact trivial) | (exact z11 _ _ _ _) | (with_reducible rfl) | (exact (rfl : _ = true)) | (exact (rfl : _ = some _)) | (exact (rfl : _ = none)) | (refine And.intro ?_ ?_) | ((show (_ : Int) = _); omega) | ((fail_if_success (with_reducible (show _ = _))); (show _ = _)))))
theorem cut64 (p : Bs) (n : Nat) : (p.take (n + 64)).drop n = (p.drop n).take 64 := by rw [List.drop_take, Nat.add_sub_cancel_left]
theorem z8W (t : Bs) (ht : (t.length : Int) ≤ 100000000) : CT Tryz.prog 85 [] [.str t] (.str (z2d t)) [] := by
 have hp := zcu t
 have cp := c_pad t ht
 refine z01 z80 1 rfl Tryz.func85 rfl rfl rfl ?_
 unfold z2d
 generalize padB t = p at hp cp ⊢
 obtain ⟨m, hm⟩ : ∃ m, p.length = 64 * m := ⟨p.length / 64, by omega⟩
 have hm2 : p.length / 64 = m := by omega
 rw [hm2]
 repeat ((try conv => whnf); first | (refine ccA ([]) (zhT) ?_) | (refine ccA ([]) (c_keys) ?_) | (refine ccA ([]) (cp) ?_) | (refine And.intro (by kernel_rfl) ?_) | (refine stpQ ?_))
 refine z0h 0 ⟨[(3, .ptr 1 0 0)], [(1, some (.box (wE (z2B first8 p kF m).list)))], 2⟩ Nat (fun k => ⟨[(3, .ptr 1 0 0), (4, .ptr 2 0 0), (5, .str p), (6, .int .i64 ((64 * k : Nat) : Int))], [(1, some (.box (wE (z2B first8 p kF k).list))), (2, some (.box (vE kF 64)))], 3⟩) (fun k => k ≤ m) (fun k => m - k) 0 (by omega) ?_ ?_ ?_
 ·(refine z02 (by rfl) ?_ ?_) <;> ((repeat' (first | (exact trivial) | (exact z11 _ _ _ _) | (with_reducible rfl) | (exact (rfl : _ = true)) | (exact (rfl : _ = some _)) | (exact (rfl : _ = none)) | (refine And.intro ?_ ?_) | ((show (_ : Int) = _); omega) | ((fail_if_success (with_reducible (show _ = _))); (show _ = _))))) <;> first | rfl | decide
 ·intro k hk
  by_cases hlt : k < m
  ·have hnx := z5E first8 p kF k
   generalize z2B first8 p kF k = h at hnx ⊢
   have hcut := cut64 p (64 * k)
   rw [← hcut] at hnx
   have hbl : ((p.take (64 * k + 64)).drop (64 * k)).length = 64 := by rw [hcut]; simp; omega
   generalize hb : (p.take (64 * k + 64)).drop (64 * k) = b at hnx hbl
   have cb := zhU h b kF hbl
   rw [← hb] at cb
   repeat ((try conv => whnf); first | (refine ccA ([]) (cb) ?_) | (refine And.intro (by kernel_rfl) ?_) | (refine stpQ ?_))
   refine ⟨k + 1, by omega, by omega, ?_⟩
   rw [hnx, ← hb]
   (refine z02 (by rfl) ?_ ?_) <;> ((repeat' (first | (exact trivial) | (exact z11 _ _ _ _) | (with_reducible rfl) | (exact (rfl : _ = true)) | (exact (rfl : _ = some _)) | (exact (rfl : _ = none)) | (refine And.intro ?_ ?_) | ((show (_ : Int) = _); omega) | ((fail_if_success (with_reducible (show _ = _))); (show _ = _))))) <;> first | rfl | decide | omega
  ·have hkm : k = m := by omega
   rw [hkm]
   repeat ((try conv => whnf); first | (refine And.intro (by kernel_rfl) ?_) | (refine stpQ ?_))
   (refine z02 (by rfl) ?_ ?_) <;> ((repeat' (first | (exact trivial) | (exact z11 _ _ _ _) | (with_reducible rfl) | (exact (rfl : _ = true)) | (exact (rfl : _ = some _)) | (exact (rfl : _ = none)) | (refine And.intro ?_ ?_) | ((show (_ : Int) = _); omega) | ((fail_if_success (with_reducible (show _ = _))); (show _ = _))))) <;> first | rfl | decide
 ·generalize z2B first8 p kF m = h
  repeat ((try conv => whnf); first | (refine And.intro (by kernel_rfl) ?_) | (refine stpQ ?_))
  refine z0h 2 ⟨[(7, .ref 2)], [(2, some (.row 1 (z0f (outB h.fn 8))))], 3⟩ Nat (fun i => ⟨[(3, .ptr 1 0 0), (7, .ref 2), (8, .int .i64 (i : Int))], [(1, some (.box (vE h.fn 8))), (2, some (.row 1 (z0f (outB h.fn i))))], 3⟩) (fun i => i ≤ 8) (fun i => 8 - i) 0 (by omega) ?_ ?_ ?_
  ·(refine z02 (by rfl) ?_ ?_) <;> ((repeat' (first | (exact trivial) | (exact z11 _ _ _ _) | (with_reducible rfl) | (exact (rfl : _ = true)) | (exact (rfl : _ = some _)) | (exact (rfl : _ = none)) | (refine And.intro ?_ ?_) | ((show (_ : Int) = _); omega) | ((fail_if_success (with_reducible (show _ = _))); (show _ = _))))) <;> first | rfl | decide
  ·intro i hi
   by_cases hlt : i < 8
   ·have hnx := za2 h.fn i
    have hol := z8T h.fn i
    generalize outB h.fn i = o at hnx hol ⊢
    have hbl := z0F o
    have g0 := bget (c := o) (i := 4 * i) (by omega)
    have g1 : ((z0f o).set (4 * i) [.int .u8 ((UInt8.ofNat (shrN (h.fn i) 24).toNat).toNat : Int)])[4 * i + 1]? = some [.int .u8 ((o.getD (4 * i + 1) 0).toNat : Int)] := by
     rw [List.getElem?_set_ne (by omega)]; exact bget (by omega)
    have g2 : (((z0f o).set (4 * i) [.int .u8 ((UInt8.ofNat (shrN (h.fn i) 24).toNat).toNat : Int)]).set (4 * i + 1) [.int .u8 ((UInt8.ofNat (shrN (h.fn i) 16).toNat).toNat : Int)])[4 * i + 2]? = some [.int .u8 ((o.getD (4 * i + 2) 0).toNat : Int)] := by
     rw [List.getElem?_set_ne (by omega), List.getElem?_set_ne (by omega)]; exact bget (by omega)
    have g3 : ((((z0f o).set (4 * i) [.int .u8 ((UInt8.ofNat (shrN (h.fn i) 24).toNat).toNat : Int)]).set (4 * i + 1) [.int .u8 ((UInt8.ofNat (shrN (h.fn i) 16).toNat).toNat : Int)]).set (4 * i + 2) [.int .u8 ((UInt8.ofNat (shrN (h.fn i) 8).toNat).toNat : Int)])[4 * i + 3]? = some [.int .u8 ((o.getD (4 * i + 3) 0).toNat : Int)] := by
     rw [List.getElem?_set_ne (by omega), List.getElem?_set_ne (by omega), List.getElem?_set_ne (by omega)]; exact bget (by omega)
    repeat ((try conv => whnf); first | (refine z81 (by omega) ?_) | (refine v_at (by omega) ?_) | (refine And.intro (le32 (by omega)) ?_) | (refine z5M (n := 24) rfl ?_) | (refine z5M (n := 16) rfl ?_) | (refine z5M (n := 8) rfl ?_) | (refine w_u8 ?_) | (refine i_lt (by simp only [List.length_set]; omega) ?_) | (refine Exists.intro _ (And.intro g0 ?_)) | (refine Exists.intro _ (And.intro g1 ?_)) | (refine Exists.intro _ (And.intro g2 ?_)) | (refine Exists.intro _ (And.intro g3 ?_)) | (refine And.intro (by kernel_rfl) ?_) | (refine stpQ ?_))
    refine ⟨i + 1, by omega, by omega, ?_⟩
    rw [hnx]
    (refine z02 (by rfl) ?_ ?_) <;> ((repeat' (first | (exact trivial) | (exact z11 _ _ _ _) | (with_reducible rfl) | (exact (rfl : _ = true)) | (exact (rfl : _ = some _)) | (exact (rfl : _ = none)) | (refine And.intro ?_ ?_) | ((show (_ : Int) = _); omega) | ((fail_if_success (with_reducible (show _ = _))); (show _ = _))))) <;> try rfl
    show ((((z0f o).set (4 * i) [.int .u8 ((UInt8.ofNat (shrN (h.fn i) 24).toNat).toNat : Int)]).set (4 * i + 1) [.int .u8 ((UInt8.ofNat (shrN (h.fn i) 16).toNat).toNat : Int)]).set (4 * i + 2) [.int .u8 ((UInt8.ofNat (shrN (h.fn i) 8).toNat).toNat : Int)]).set (4 * i + 3) [.int .u8 ((UInt8.ofNat (h.fn i).toNat).toNat : Int)] = _
    rw [bset, bset, bset, bset]; rfl
   ·have hi8 : i = 8 := by omega
    rw [hi8]
    repeat ((try conv => whnf); first | (refine And.intro (by kernel_rfl) ?_) | (refine stpQ ?_))
    (refine z02 (by rfl) ?_ ?_) <;> ((repeat' (first | (exact trivial) | (exact z11 _ _ _ _) | (with_reducible rfl) | (exact (rfl : _ = true)) | (exact (rfl : _ = some _)) | (exact (rfl : _ = none)) | (refine And.intro ?_ ?_) | ((show (_ : Int) = _); omega) | ((fail_if_success (with_reducible (show _ = _))); (show _ = _))))) <;> first | rfl | decide
  ·generalize outB h.fn 8 = o
   repeat ((try conv => whnf); first | (refine Exists.intro o (And.intro rfl ?_)) | (refine And.intro (by kernel_rfl) ?_) | (refine stpQ ?_))
   (refine z00 (by rfl) ?_ ?_ (by rfl)) <;> ((repeat' (first | (exact trivial) | (exact z11 _ _ _ _) | (with_reducible rfl) | (exact (rfl : _ = true)) | (exact (rfl : _ = some _)) | (exact (rfl : _ = none)) | (refine And.intro ?_ ?_) | ((show (_ : Int) = _); omega) | ((fail_if_success (with_reducible (show _ = _))); (show _ = _)))))
end Go.Proofs.YtgmbkbggnlponaaGreatDoor
