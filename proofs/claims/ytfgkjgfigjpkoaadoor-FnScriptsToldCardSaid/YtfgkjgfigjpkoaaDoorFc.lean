/- Functions by content: an entry is looked up, put, dropped. Functions by content: an entry is dropped; one is put, by the reference; lists are compared. Functions by content: more of what is drawn: any bound, texts, spoilt texts. -/
import Derived.Test.YtfgkjgfigjpkoaaDoorFa
import Derived.Test.YtfgkjgfigjpkoaaDoorPlainM
import Derived.Test.YtfgkjgfigjpkoaaDoorFb
namespace Go.Proofs.YtfgkjgfigjpkoaaDoor
set_option linter.unusedVariables false
set_option linter.unusedSimpArgs false
set_option linter.unusedSectionVars false
open Go.RowKit Pl
attribute [local irreducible] z0t z0u z0C AnsP LeP
end Go.Proofs.YtfgkjgfigjpkoaaDoor
namespace Go.Proofs.YtfgkjgfigjpkoaaDoor
set_option linter.unusedVariables false
set_option linter.unusedSimpArgs false
set_option linter.unusedSectionVars false
open Go.RowKit Pl
attribute [local irreducible] z0t z0u z0C AnsP LeP
end Go.Proofs.YtfgkjgfigjpkoaaDoor
namespace Go.Proofs.YtfgkjgfigjpkoaaDoor
set_option maxRecDepth 100000
set_option maxHeartbeats 1000000
set_option linter.unusedVariables false
set_option linter.unusedSimpArgs false
set_option linter.unusedSectionVars false
open Go.RowKit Pl
attribute [local irreducible] z0t z0u z0C AnsP LeP
theorem w_muln {a n : Nat} {K : Int → Prop} (h : a * OfNat.ofNat n ≤ 9223372036854775807) (hk : K ((a * OfNat.ofNat n : Nat) : Int)) : ∃ r, r = IntKind.i64.wrap ((a : Int) * (OfNat.ofNat n : Int)) ∧ K r :=
 z8r (b := OfNat.ofNat n) h hk
theorem zbI (c : Bs) (i : Nat) (h : Int) (n : Nat) (hc : (c.length : Int) ≤ 1048576) (hi : i ≤ c.length) (hn : 0 < n) : ∃ (x i' : Nat) (h' : Int), x < n ∧ i' ≤ c.length ∧ CT Tryd.prog 19 [curE c i h] [.ptr 1 0 0, .int .i64 (n : Int)] (.int .i64 (x : Int)) [curE c i' h'] := by
 by_cases h256 : n ≤ 256
 ·exact z0X c i h n hc hi ⟨hn, h256⟩
 ·obtain ⟨x, i1, h1, hx, hi1, k1⟩ := z1y c i h hc hi
  obtain ⟨y, i2, h2, hy, hi2, k2⟩ := z1y c i1 h1 hc hi1
  obtain ⟨z, i3, h3, hz, hi3, k3⟩ := z1y c i2 h2 hc hi2
  obtain ⟨v, i4, h4, hv, hi4, k4⟩ := z1y c i3 h3 hc hi3
  refine ⟨(x * 16777216 + y * 65536 + z * 256 + v) % n, i4, h4, Nat.mod_lt _ hn, hi4, z0d z13 2 rfl Tryd.func19 rfl rfl rfl ?_⟩
  repeat ((try conv => whnf); first | (refine ccB ([1]) (k1) ?_) | (refine ccB ([1]) (k2) ?_) | (refine ccB ([1]) (k3) ?_) | (refine ccB ([1]) (k4) ?_) | (refine w_muln (by omega) ?_) | (refine z0L ?_) | (refine stpQ ?_))
  (refine z09 (by rfl) ?_ ?_ (by rfl)) <;> repeat' (first | (exact eqA) | (refine And.intro ?_ ?_) | ((fail_if_success (with_reducible (show _ = _))); (show _ = _)))
theorem z99 (c : Bs) (i : Nat) (h : Int) (n : Nat) (hc : (c.length : Int) ≤ 1048576) (hi : i ≤ c.length) (hn : 0 < n) : ∃ (x : Bool) (i' : Nat) (h' : Int), i' ≤ c.length ∧ CT Tryd.prog 20 [curE c i h] [.ptr 1 0 0, .int .i64 (n : Int)] (.bool x) [curE c i' h'] := by
 obtain ⟨x, i', h', hx, hi', k⟩ := zbI c i h n hc hi hn
 refine ⟨decide ((x : Int) = 0), i', h', hi', z0d z13 2 rfl Tryd.func20 rfl rfl rfl ?_⟩
 repeat ((try conv => whnf); first | (refine ccB ([1]) (k) ?_) | (refine stpQ ?_))
 (refine z09 (by rfl) ?_ ?_ (by rfl)) <;> repeat' (first | (exact eqA) | (refine And.intro ?_ ?_) | ((fail_if_success (with_reducible (show _ = _))); (show _ = _)))
def intE (l : List Int) : List (List T) := l.map fun s => [.int .i64 s]
theorem za9 (l : List Int) : (intE l).length = l.length := by simp [intE]
theorem z9a {l : List Int} {i : Nat} (h : i < l.length) : (intE l)[i]? = some [.int .i64 (l.getD i 0)] := by simp [intE, List.getD, List.getElem?_eq_getElem h]
theorem z2r (c : Bs) (i : Nat) (h : Int) (l : List Int) (hc : (c.length : Int) ≤ 1048576) (hi : i ≤ c.length) (hl : 0 < l.length ∧ l.length ≤ 256) : ∃ (s : Int) (i' : Nat) (h' : Int), s ∈ l ∧ i' ≤ c.length ∧ CT Tryd.prog 60 [curE c i h] [.ptr 1 0 0, .sl 1 (intE l)] (.int .i64 s) [curE c i' h'] := by
 obtain ⟨x, i', h', hx, hi', k⟩ := z0X c i h l.length hc hi hl
 have hlen := za9 l
 refine ⟨l.getD x 0, i', h', ?_, hi', z0d z13 2 rfl Tryd.func60 rfl rfl rfl ?_⟩
 ·simp [List.getD, List.getElem?_eq_getElem hx]
 ·repeat ((try conv => whnf); first | (refine Exists.intro l.length (And.intro hlen ?_)) | (refine ccB ([1]) (k) ?_) | (refine i_at (z9a hx) ?_) | (refine stpQ ?_))
  (refine z09 (by rfl) ?_ ?_ (by rfl)) <;> repeat' (first | (exact eqA) | (refine And.intro ?_ ?_) | ((fail_if_success (with_reducible (show _ = _))); (show _ = _)))
inductive TR (c : Bs) : Nat → Nat → Int → Bs → Bs → Nat → Int → Prop
 | stop {i h out} : TR c 0 i h out out i h
 | step {n i h out x i1 h1 out' i' h'} : x ≤ 255 → i1 ≤ c.length → CT Tryd.prog 34 [curE c i h] [.ptr 1 0 0] (.int .i64 ((x : Nat) : Int)) [curE c i1 h1] → TR c n i1 h1 (out ++ [UInt8.ofNat x]) out' i' h' → TR c (n + 1) i h out out' i' h'
theorem zaJ (c : Bs) (hc : (c.length : Int) ≤ 1048576) : ∀ (n i : Nat) (h : Int) (out : Bs), i ≤ c.length → ∃ out' i' h', TR c n i h out out' i' h' ∧ out'.length = out.length + n ∧ i' ≤ c.length
 | 0, i, h, out, hi => ⟨out, i, h, .stop, rfl, hi⟩
 | n + 1, i, h, out, hi => by
   obtain ⟨x, i1, h1, hx, hi1, k1⟩ := z1y c i h hc hi
   obtain ⟨out', i', h', ht, hl, hi'⟩ := zaJ c hc n i1 h1 (out ++ [UInt8.ofNat x]) hi1
   exact ⟨out', i', h', .step hx hi1 k1 ht, by rw [hl]; simp; omega, hi'⟩
theorem c_text (c : Bs) (i : Nat) (h : Int) (n : Nat) (hc : (c.length : Int) ≤ 1048576) (hi : i ≤ c.length) (hn : n ≤ 5000) : ∃ (s : Bs) (i' : Nat) (h' : Int), s.length = n ∧ i' ≤ c.length ∧ CT Tryd.prog 49 [curE c i h] [.ptr 1 0 0, .int .i64 (n : Int)] (.str s) [curE c i' h'] := by
 obtain ⟨s, i', h', ht, hl, hi'⟩ := zaJ c hc n i h [] hi
 refine ⟨s, i', h', by simpa using hl, hi', z0d z13 2 rfl Tryd.func49 rfl rfl rfl ?_⟩
 repeat ((try conv => whnf); first | (refine stpQ ?_))
 refine z5Z (Nat × Nat × Int × Bs) (fun ⟨k, i, h, out⟩ => ⟨[(0, .ptr 1 0 0), (1, .int .i64 (n : Int)), (5, .ref 2), (6, .int .i64 (k : Int))], [(1, some (curE c i h)), (2, some (.row 1 (z0n out)))], 3⟩) (fun ⟨k, i, h, out⟩ => TR c (n - k) i h out s i' h' ∧ k ≤ n ∧ out.length = k) (fun ⟨k, i, h, out⟩ => n - k) (0, i, h, []) ⟨ht, by omega, rfl⟩ ?_ ?_
 ·(refine z0a (by rfl) ?_ ?_) <;> (repeat' (first | (exact eqA) | (refine And.intro ?_ ?_) | ((fail_if_success (with_reducible (show _ = _))); (show _ = _)))) <;> first | rfl | decide
 ·rintro ⟨k, i, h, out⟩ ⟨hd, hk, hlo⟩
  have hbl := z0J out
  by_cases hlt : k < n
  ·obtain ⟨m, hm⟩ : ∃ m, n - k = m + 1 := ⟨n - k - 1, by omega⟩
   rw [hm] at hd
   cases hd with
   | @step _ _ _ _ x i1 h1 _ _ _ hx hi1 k1 hd' =>
     repeat ((try conv => whnf); first | (refine ccB ([1]) (k1) ?_) | (refine w_u8 ?_) | (refine And.intro (by simp [z0J]; omega) ?_) | (refine stpQ ?_))
     refine ⟨(k + 1, i1, h1, out ++ [UInt8.ofNat x]), ⟨by rw [show n - (k + 1) = m by omega]; exact hd', by omega, by simp; omega⟩, (by show n - (k + 1) < n - k; omega), ?_⟩
     (refine z0a (by rfl) ?_ ?_) <;> (repeat' (first | (exact eqA) | (refine And.intro ?_ ?_) | ((fail_if_success (with_reducible (show _ = _))); (show _ = _))))
     simp [z0n, z4e]
  ·have hz : n - k = 0 := by omega
   rw [hz] at hd
   cases hd with
   | stop =>
     repeat ((try conv => whnf); first | (refine Exists.intro s (And.intro rfl ?_)) | (refine stpQ ?_))
     (refine z09 (by rfl) ?_ ?_ (by rfl)) <;> (repeat' (first | (exact eqA) | (refine And.intro ?_ ?_) | ((fail_if_success (with_reducible (show _ = _))); (show _ = _))))
end Go.Proofs.YtfgkjgfigjpkoaaDoor
