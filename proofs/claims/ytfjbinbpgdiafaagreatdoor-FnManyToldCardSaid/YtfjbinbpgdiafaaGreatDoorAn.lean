/- Functions by content: any lists drawn, what is put into them, and texts of lists. -/
import Derived.Test.YtfjbinbpgdiafaaGreatDoorFc
import Derived.Test.YtfjbinbpgdiafaaGreatDoorFb
import Derived.Test.YtfjbinbpgdiafaaGreatDoorGg
namespace Go.Proofs.YtfjbinbpgdiafaaGreatDoor
set_option linter.unusedVariables false
set_option linter.unusedSimpArgs false
set_option linter.unusedSectionVars false
open Go.RowKit Pl
attribute [local irreducible] z0t z0u z0A AnsP LeP
def z4a (m : Nat) : List Lf := (List.range m).map fun i => ([110, UInt8.ofNat (97 + i)], [118])
theorem z8u (m : Nat) : (z4a m).length = m := by simp [z4a]
theorem zbq (m : Nat) : z4a (m + 1) = z4a m ++ [([110, UInt8.ofNat (97 + m)], [118])] := by simp [z4a, List.range_succ]
theorem z9q (m : Nat) : Small9 (z4a m) := by
 intro x hx
 simp only [z4a, List.mem_map] at hx
 obtain ⟨i, _, rfl⟩ := hx
 simp
inductive AR (c : Bs) : Nat → Nat → Int → Nat → Nat → Int → Prop
 | stop {k i h x i' h'} : i' ≤ c.length → 24 + x ≤ k → CT Tryz.prog 71 [curE c i h] [.ptr 1 0 0, .int .i64 2] (.int .i64 ((x : Nat) : Int)) [curE c i' h'] → AR c k i h k i' h'
 | step {k i h x i1 h1 m i' h'} : x < 2 → k < 24 + x → i1 ≤ c.length → CT Tryz.prog 71 [curE c i h] [.ptr 1 0 0, .int .i64 2] (.int .i64 ((x : Nat) : Int)) [curE c i1 h1] → AR c (k + 1) i1 h1 m i' h' → AR c k i h m i' h'
theorem zeC (c : Bs) (hc : (c.length : Int) ≤ 1048576) : ∀ (f k i : Nat) (h : Int), k + f = 25 → i ≤ c.length → ∃ m i' h', AR c k i h m i' h' ∧ m ≤ 25 ∧ i' ≤ c.length
 | f, k, i, h, hf, hi => by
   obtain ⟨x, i1, h1, hx, hi1, cb⟩ := z1F c i h 2 hc hi (by omega)
   by_cases hk : k < 24 + x
   ·cases f with
    | zero => omega
    | succ f =>
      obtain ⟨m, i', h', hd, hm, hi'⟩ := zeC c hc f (k + 1) i1 h1 (by omega) hi1
      exact ⟨m, i', h', .step hx hk hi1 cb hd, hm, hi'⟩
   ·exact ⟨k, i1, h1, .stop hi1 (by omega) cb, by omega, hi1⟩
def anyS3 : List Bs := [[], [97, 32, 98], [111, 107]]
theorem zd6 : ∀ s ∈ anyS3, s.length ≤ 3 := by decide
def annB : Bs := [97, 110, 110]
def zoeB : Bs := [122, 111, 101]
theorem z5Q {l : List Lf} {n v : Bs} (h : Small9 l) (hn : (n.length : Int) ≤ 9) (hv : (v.length : Int) ≤ 9) : Small9 (l ++ [(n, v)]) := by
 intro x hx
 rcases List.mem_append.1 hx with hx | hx
 ·exact h x hx
 ·rw [List.mem_singleton.1 hx]; exact ⟨hn, hv⟩
set_option maxRecDepth 100000 in
set_option maxHeartbeats 4000000 in
theorem zaA (c : Bs) (i : Nat) (h : Int) (hc : (c.length : Int) ≤ 1048576) (hi : i ≤ c.length) : ∃ (l : List Lf) (i' : Nat) (h' : Int), (Small9 l ∧ l.length ≤ 25) ∧ i' ≤ c.length ∧ CT Tryz.prog 72 [curE c i h] [.ptr 1 0 0] (.ref 2) [curE c i' h', .row 2 (lvE l)] := by
 obtain ⟨x, i1, h1, hx, hi1, k1⟩ := z1F c i h 12 hc hi (by omega)
 obtain ⟨l, i2, h2, hl, hi2, k2⟩ := z8k c i1 h1 hc hi1
 have hll := z0v l
 by_cases x0 : x = 0
 ·subst x0
  refine ⟨l ++ [(annB, [107])], i2, h2, ⟨z5Q hl.2.1 (by decide) (by decide), by simp; omega⟩, hi2, z0b z0q 2 rfl Tryz.func72 rfl rfl rfl ?_⟩
  repeat ((try conv => whnf); first | (refine ccB ([1]) (k1) ?_) | (refine ccB ([1]) (k2) ?_) | (refine And.intro (by simp [z0v]; omega) ?_) | (refine stpQ ?_))
  (refine z02 (by rfl) ?_ ?_ (by rfl)) <;> (repeat' (first | (exact eqA) | (refine shE ?_) | (refine And.intro ?_ ?_)))
  simp [lvE]; rfl
 ·by_cases x1 : x = 1
  ·subst x1
   obtain ⟨v, i3, h3, hv, hi3, k3⟩ := z5q c i2 h2 anyS3 hc hi2 (by decide)
   have := zd6 v hv
   refine ⟨l ++ [(zoeB, v)], i3, h3, ⟨z5Q hl.2.1 (by decide) (by omega), by simp; omega⟩, hi3, z0b z0q 2 rfl Tryz.func72 rfl rfl rfl ?_⟩
   repeat ((try conv => whnf); first | (refine ccB ([1]) (k1) ?_) | (refine ccB ([1]) (k2) ?_) | (refine z1B ([1]) (k3) (by ((repeat' (first | (exact trivial) | (exact rfl) | (decide) | (refine And.intro ?_ ?_))); first | done | fail)) (by ((repeat' (first | (exact trivial) | (exact rfl) | (decide) | (refine And.intro ?_ ?_))); first | done | fail)) (by decide) (by rfl) (by first | exact .inl rfl | (refine .inr ⟨?_, ?_⟩ <;> simp [own2, own1, own0, ownE])) ?_) | (refine And.intro (by simp [z0v]; omega) ?_) | (refine stpQ ?_))
   (refine z02 (by rfl) ?_ ?_ (by rfl)) <;> (repeat' (first | (exact eqA) | (refine shE ?_) | (refine And.intro ?_ ?_)))
   simp [lvE]; rfl
  ·by_cases x2 : x = 2
   ·subst x2
    obtain ⟨m, i3, h3, hd, hm, hi3⟩ := zeC c hc 25 0 i2 h2 rfl hi2
    refine ⟨z4a m, i3, h3, ⟨z9q m, by rw [z8u]; exact hm⟩, hi3, z0b z0q 2 rfl Tryz.func72 rfl rfl rfl ?_⟩
    repeat ((try conv => whnf); first | (refine ccB ([1]) (k1) ?_) | (refine ccB ([1]) (k2) ?_) | (refine And.intro (by simp [z0v]; omega) ?_) | (refine stpQ ?_))
    refine z0g 1 ⟨[(4, .ref 2)], [(1, some (curE c i3 h3)), (2, some (.row 2 (lvE (z4a m))))], 3⟩ (Nat × Nat × Int) (fun ⟨k, i, h⟩ => ⟨[(0, .ptr 1 0 0), (4, .ref 2), (5, .int .i64 (k : Int))], [(1, some (curE c i h)), (2, some (.row 2 (lvE (z4a k))))], 3⟩) (fun ⟨k, i, h⟩ => AR c k i h m i3 h3 ∧ k ≤ 25) (fun ⟨k, i, h⟩ => 25 - k) (0, i2, h2) ⟨hd, by omega⟩ ?_ ?_ ?_
    ·(refine z01 (by rfl) ?_ ?_) <;> (repeat' (first | (exact eqA) | (refine shE ?_) | (refine And.intro ?_ ?_))) <;> first | rfl | decide
    ·rintro ⟨k, i, h⟩ ⟨hd, hk⟩
     have hlm := z0v (z4a k)
     have hml := z8u k
     cases hd with
     | stop hi1 hx cb =>
       repeat ((try conv => whnf); first | (refine ccB ([1]) (cb) ?_) | (refine zcl (by omega) ?_) | (refine stpQ ?_))
       (refine z01 (by rfl) ?_ ?_) <;> (repeat' (first | (exact eqA) | (refine shE ?_) | (refine And.intro ?_ ?_)))
     | @step _ _ _ x i1 h1 _ _ _ hx hkx hi1 cb hd' =>
       repeat ((try conv => whnf); first | (refine ccB ([1]) (cb) ?_) | (refine zcl (by omega) ?_) | (refine w_u8 ?_) | (refine Exists.intro [UInt8.ofNat (97 + k)] (And.intro rfl ?_)) | (refine And.intro (show ((1 + 1 : Nat) : Int) ≤ 9223372036854775807 by decide) ?_) | (refine And.intro (by simp [z0v]; omega) ?_) | (refine stpQ ?_))
       refine ⟨(k + 1, i1, h1), ⟨hd', by omega⟩, (by show 25 - (k + 1) < 25 - k; omega), ?_⟩
       (refine z01 (by rfl) ?_ ?_) <;> (repeat' (first | (exact eqA) | (refine shE ?_) | (refine And.intro ?_ ?_)))
       show lvE (z4a k) ++ [[.str ([110] ++ [UInt8.ofNat (97 + k)]), .str [118]]] = lvE (z4a (k + 1))
       rw [zbq]
       simp [lvE]
    ·repeat ((try conv => whnf); first | (refine stpQ ?_))
     (refine z02 (by rfl) ?_ ?_ (by rfl)) <;> (repeat' (first | (exact eqA) | (refine shE ?_) | (refine And.intro ?_ ?_)))
   ·refine ⟨l, i2, h2, ⟨hl.2.1, by omega⟩, hi2, z0b z0q 2 rfl Tryz.func72 rfl rfl rfl ?_⟩
    repeat ((try conv => whnf); first | (refine ccB ([1]) (k1) ?_) | (refine ccB ([1]) (k2) ?_) | (refine And.intro (by simp [z0v]; omega) ?_) | (refine stpQ ?_))
    (refine z02 (by rfl) ?_ ?_ (by rfl)) <;> (repeat' (first | (exact eqA) | (refine shE ?_) | (refine And.intro ?_ ?_)))
    rfl
theorem z3R {l : List Lf} (h : Small9 l) (hl : l.length ≤ 25) : Sml l := by
 refine ⟨by omega, fun i => ?_⟩
 unfold lfAt
 rcases Nat.lt_or_ge i l.length with hi | hi
 ·have := h l[i] (List.getElem_mem hi)
  simp only [List.getD, List.getElem?_eq_getElem hi, Option.getD_some]
  omega
 ·simp [List.getD, List.getElem?_eq_none hi]
end Go.Proofs.YtfjbinbpgdiafaaGreatDoor
