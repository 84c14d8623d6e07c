/- Functions by content: an entry is looked up, put, dropped. Functions by content: an entry is dropped; one is put, by the reference; lists are compared. Functions by content: lists and names drawn. Functions by content: more of what is drawn: any bound, texts, spoilt texts. -/
import Derived.Test.YtkjjacndfieeoaaGreatDoorFa
import Derived.Test.YtkjjacndfieeoaaGreatDoorPlainM
import Derived.Test.YtkjjacndfieeoaaGreatDoorFb
namespace Go.Proofs.YtkjjacndfieeoaaGreatDoor
set_option linter.unusedVariables false
set_option linter.unusedSimpArgs false
set_option linter.unusedSectionVars false
open Go.RowKit Pl
attribute [local irreducible] z0m z0n z0q AnsP LeP
end Go.Proofs.YtkjjacndfieeoaaGreatDoor
namespace Go.Proofs.YtkjjacndfieeoaaGreatDoor
set_option linter.unusedVariables false
set_option linter.unusedSimpArgs false
set_option linter.unusedSectionVars false
open Go.RowKit Pl
attribute [local irreducible] z0m z0n z0q AnsP LeP
end Go.Proofs.YtkjjacndfieeoaaGreatDoor
namespace Go.Proofs.YtkjjacndfieeoaaGreatDoor
set_option linter.unusedVariables false
set_option linter.unusedSimpArgs false
set_option linter.unusedSectionVars false
open Go.RowKit Pl
attribute [local irreducible] z0m z0n z0q AnsP LeP
def Small9 (l : List Lf) : Prop := ∀ x ∈ l, (x.1.length : Int) ≤ 9 ∧ (x.2.length : Int) ≤ 9
theorem Small9.fit {l : List Lf} (h : Small9 l) : Fit l := fun i => by
 unfold lfAt
 rcases Nat.lt_or_ge i l.length with hl | hl
 ·have := h l[i] (List.getElem_mem hl)
  simp only [List.getD, List.getElem?_eq_getElem hl, Option.getD_some]
  omega
 ·simp [List.getD, List.getElem?_eq_none hl]
theorem Small9.put {l : List Lf} {n v : Bs} (h : Small9 l) (hn : (n.length : Int) ≤ 9) (hv : (v.length : Int) ≤ 9) : Small9 (putL l n v) := by
 intro x hx
 simp only [putL, lowL, highL, z3R, List.mem_append, List.mem_filter, List.mem_singleton] at hx
 rcases hx with (hx | hx) | hx
 ·exact h x hx.1.1
 ·subst hx; exact ⟨hn, hv⟩
 ·exact h x hx.1.1
end Go.Proofs.YtkjjacndfieeoaaGreatDoor
namespace Go.Proofs.YtkjjacndfieeoaaGreatDoor
set_option maxRecDepth 100000
set_option maxHeartbeats 1000000
set_option linter.unusedVariables false
set_option linter.unusedSimpArgs false
set_option linter.unusedSectionVars false
open Go.RowKit Pl
attribute [local irreducible] z0m z0n z0q AnsP LeP
theorem w_muln {a n : Nat} {K : Int → Prop} (h : a * OfNat.ofNat n ≤ 9223372036854775807) (hk : K ((a * OfNat.ofNat n : Nat) : Int)) : ∃ r, r = IntKind.i64.wrap ((a : Int) * (OfNat.ofNat n : Int)) ∧ K r :=
 w_mul (b := OfNat.ofNat n) h hk
theorem z3m (c : Bs) (i : Nat) (h : Int) (n : Nat) (hc : (c.length : Int) ≤ 1048576) (hi : i ≤ c.length) (hn : 0 < n) : ∃ (x i' : Nat) (h' : Int), x < n ∧ i' ≤ c.length ∧ CT Tryz.prog 24 [curE c i h] [.ptr 1 0 0, .int .i64 (n : Int)] (.int .i64 (x : Int)) [curE c i' h'] := by
 by_cases h256 : n ≤ 256
 ·exact zde c i h n hc hi ⟨hn, h256⟩
 ·obtain ⟨x, i1, h1, hx, hi1, k1⟩ := z2h c i h hc hi
  obtain ⟨y, i2, h2, hy, hi2, k2⟩ := z2h c i1 h1 hc hi1
  obtain ⟨z, i3, h3, hz, hi3, k3⟩ := z2h c i2 h2 hc hi2
  obtain ⟨v, i4, h4, hv, hi4, k4⟩ := z2h c i3 h3 hc hi3
  refine ⟨(x * 16777216 + y * 65536 + z * 256 + v) % n, i4, h4, Nat.mod_lt _ hn, hi4, z01 z0A 2 rfl Tryz.func24 rfl rfl rfl ?_⟩
  repeat ((try conv => whnf); first | (refine ccB ([1]) (k1) ?_) | (refine ccB ([1]) (k2) ?_) | (refine ccB ([1]) (k3) ?_) | (refine ccB ([1]) (k4) ?_) | (refine w_muln (by omega) ?_) | (refine r_rem ?_) | (refine stpQ ?_))
  (refine z00 (by rfl) ?_ ?_ (by rfl)) <;> repeat' (first | (exact eqA) | (refine shE ?_) | (refine And.intro ?_ ?_))
theorem zhY (c : Bs) (i : Nat) (h : Int) (n : Nat) (hc : (c.length : Int) ≤ 1048576) (hi : i ≤ c.length) (hn : 0 < n) : ∃ (x : Bool) (i' : Nat) (h' : Int), i' ≤ c.length ∧ CT Tryz.prog 57 [curE c i h] [.ptr 1 0 0, .int .i64 (n : Int)] (.bool x) [curE c i' h'] := by
 obtain ⟨x, i', h', hx, hi', k⟩ := z3m c i h n hc hi hn
 refine ⟨decide ((x : Int) = 0), i', h', hi', z01 z0A 2 rfl Tryz.func57 rfl rfl rfl ?_⟩
 repeat ((try conv => whnf); first | (refine ccB ([1]) (k) ?_) | (refine stpQ ?_))
 (refine z00 (by rfl) ?_ ?_ (by rfl)) <;> repeat' (first | (exact eqA) | (refine shE ?_) | (refine And.intro ?_ ?_))
inductive TR (c : Bs) : Nat → Nat → Int → Bs → Bs → Nat → Int → Prop
 | stop {i h out} : TR c 0 i h out out i h
 | step {n i h out x i1 h1 out' i' h'} : x ≤ 255 → i1 ≤ c.length → CT Tryz.prog 23 [curE c i h] [.ptr 1 0 0] (.int .i64 ((x : Nat) : Int)) [curE c i1 h1] → TR c n i1 h1 (out ++ [UInt8.ofNat x]) out' i' h' → TR c (n + 1) i h out out' i' h'
theorem zhZ (c : Bs) (hc : (c.length : Int) ≤ 1048576) : ∀ (n i : Nat) (h : Int) (out : Bs), i ≤ c.length → ∃ out' i' h', TR c n i h out out' i' h' ∧ out'.length = out.length + n ∧ i' ≤ c.length
 | 0, i, h, out, hi => ⟨out, i, h, .stop, rfl, hi⟩
 | n + 1, i, h, out, hi => by
   obtain ⟨x, i1, h1, hx, hi1, k1⟩ := z2h c i h hc hi
   obtain ⟨out', i', h', ht, hl, hi'⟩ := zhZ c hc n i1 h1 (out ++ [UInt8.ofNat x]) hi1
   exact ⟨out', i', h', .step hx hi1 k1 ht, by rw [hl]; simp; omega, hi'⟩
theorem zi0 (c : Bs) (i : Nat) (h : Int) (n : Nat) (hc : (c.length : Int) ≤ 1048576) (hi : i ≤ c.length) (hn : n ≤ 5000) : ∃ (s : Bs) (i' : Nat) (h' : Int), s.length = n ∧ i' ≤ c.length ∧ CT Tryz.prog 96 [curE c i h] [.ptr 1 0 0, .int .i64 (n : Int)] (.str s) [curE c i' h'] := by
 obtain ⟨s, i', h', ht, hl, hi'⟩ := zhZ c hc n i h [] hi
 refine ⟨s, i', h', by simpa using hl, hi', z01 z0A 2 rfl Tryz.func96 rfl rfl rfl ?_⟩
 repeat ((try conv => whnf); first | (refine stpQ ?_))
 refine z1L (Nat × Nat × Int × Bs) (fun ⟨k, i, h, out⟩ => ⟨[(0, .ptr 1 0 0), (1, .int .i64 (n : Int)), (5, .ref 2), (6, .int .i64 (k : Int))], [(1, some (curE c i h)), (2, some (.row 1 (z0h out)))], 3⟩) (fun ⟨k, i, h, out⟩ => TR c (n - k) i h out s i' h' ∧ k ≤ n ∧ out.length = k) (fun ⟨k, i, h, out⟩ => n - k) (0, i, h, []) ⟨ht, by omega, rfl⟩ ?_ ?_
 ·(refine z02 (by rfl) ?_ ?_) <;> (repeat' (first | (exact eqA) | (refine shE ?_) | (refine And.intro ?_ ?_))) <;> first | rfl | decide
 ·rintro ⟨k, i, h, out⟩ ⟨hd, hk, hlo⟩
  have hbl := z0y out
  by_cases hlt : k < n
  ·obtain ⟨m, hm⟩ : ∃ m, n - k = m + 1 := ⟨n - k - 1, by omega⟩
   rw [hm] at hd
   cases hd with
   | @step _ _ _ _ x i1 h1 _ _ _ hx hi1 k1 hd' =>
     repeat ((try conv => whnf); first | (refine ccB ([1]) (k1) ?_) | (refine w_u8 ?_) | (refine And.intro (by simp [z0y]; omega) ?_) | (refine stpQ ?_))
     refine ⟨(k + 1, i1, h1, out ++ [UInt8.ofNat x]), ⟨by rw [show n - (k + 1) = m by omega]; exact hd', by omega, by simp; omega⟩, (by show n - (k + 1) < n - k; omega), ?_⟩
     (refine z02 (by rfl) ?_ ?_) <;> (repeat' (first | (exact eqA) | (refine shE ?_) | (refine And.intro ?_ ?_)))
     simp [z0h, z3K]
  ·have hz : n - k = 0 := by omega
   rw [hz] at hd
   cases hd with
   | stop =>
     repeat ((try conv => whnf); first | (refine Exists.intro s (And.intro rfl ?_)) | (refine stpQ ?_))
     (refine z00 (by rfl) ?_ ?_ (by rfl)) <;> (repeat' (first | (exact eqA) | (refine shE ?_) | (refine And.intro ?_ ?_)))
end Go.Proofs.YtkjjacndfieeoaaGreatDoor
