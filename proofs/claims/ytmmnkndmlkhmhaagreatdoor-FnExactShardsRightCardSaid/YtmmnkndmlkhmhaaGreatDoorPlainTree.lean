/- Plain: the tree of hashes, and the way up from a bucket to the root. -/
import Derived.Test.YtmmnkndmlkhmhaaGreatDoorPlainSh
import Derived.Test.YtmmnkndmlkhmhaaGreatDoorPlainA
namespace Go.Proofs.YtmmnkndmlkhmhaaGreatDoor.Pl
set_option linter.unusedVariables false
set_option linter.unusedSimpArgs false
def tagB (k : Nat) (ps : List Bs) : Bs := UInt8.ofNat k :: ps.flatMap shortText
def cutB (t : Bs) (w : Nat) : Bs := (digestB t).take w
def hashB (k : Nat) (ps : List Bs) (w : Nat) : Bs := cutB (tagB k ps) w
theorem cutB_len {t : Bs} {w : Nat} (h : w ≤ 32) : (cutB t w).length = w := by rw [cutB, List.length_take, digestB_len]; omega
theorem hashB_len {k : Nat} {ps : List Bs} {w : Nat} (h : w ≤ 32) : (hashB k ps w).length = w := cutB_len h
def partsB (l : List Lf) : List Bs := l.flatMap fun x => [x.1, x.2]
def bucketB (l : List Lf) : Bs := if l = [] then tagB 1 [] else tagB 2 (partsB l)
/-- The hash of an empty place, d levels above the buckets. -/
def emB (w : Nat) : Nat → Bs
  | 0 => hashB 1 [] w
  | d + 1 => hashB 3 [emB w d, emB w d] w
def atP (l : List Lf) (d p : Nat) : List Lf := l.filter fun x => decide (ixB x.1 / 2 ^ d = p)
def nodeB (l : List Lf) (w : Nat) : Nat → Nat → Bs
  | 0, p => cutB (bucketB (atP l 0 p)) w
  | d + 1, p => if atP l (d + 1) p = [] then emB w (d + 1) else hashB 3 [nodeB l w d (2 * p), nodeB l w d (2 * p + 1)] w
theorem emB_len {w : Nat} (h : w ≤ 32) : ∀ d, (emB w d).length = w
  | 0 => hashB_len h
  | d + 1 => hashB_len h
theorem nodeB_len {l : List Lf} {w : Nat} (h : w ≤ 32) : ∀ d p, (nodeB l w d p).length = w
  | 0, p => cutB_len h
  | d + 1, p => by
    rw [nodeB]
    split
    · exact emB_len h _
    · exact hashB_len h
theorem div_up {a d p : Nat} : a / 2 ^ (d + 1) = p ↔ a / 2 ^ d = 2 * p ∨ a / 2 ^ d = 2 * p + 1 := by
  rw [Nat.pow_succ, ← Nat.div_div_eq_div_mul]; omega
theorem atP_mem {l : List Lf} {d p : Nat} {x : Lf} : x ∈ atP l d p ↔ x ∈ l ∧ ixB x.1 / 2 ^ d = p := by simp [atP]
/-- What lies below a place lies below the place above it. -/
theorem atP_sub {l : List Lf} {d p q : Nat} (h : q = 2 * p ∨ q = 2 * p + 1) : atP (atP l (d + 1) p) d q = atP l d q := by
  unfold atP
  rw [List.filter_filter]
  apply List.filter_congr
  intro x _
  by_cases h1 : ixB x.1 / 2 ^ d = q
  · have : ixB x.1 / 2 ^ (d + 1) = p := div_up.2 (by omega)
    simp [h1, this]
  · simp [h1]
theorem atP_same (l : List Lf) (d p : Nat) : atP (atP l d p) d p = atP l d p := by
  unfold atP
  rw [List.filter_filter]
  apply List.filter_congr
  intro x _
  simp
theorem nodeB_congr {w : Nat} : ∀ (d : Nat) {l m : List Lf} {p : Nat}, atP l d p = atP m d p → nodeB l w d p = nodeB m w d p
  | 0, l, m, p, h => by rw [nodeB, nodeB, h]
  | d + 1, l, m, p, h => by
    have h1 : atP l d (2 * p) = atP m d (2 * p) := by rw [← atP_sub (l := l) (.inl rfl), ← atP_sub (l := m) (.inl rfl), h]
    have h2 : atP l d (2 * p + 1) = atP m d (2 * p + 1) := by rw [← atP_sub (l := l) (.inr rfl), ← atP_sub (l := m) (.inr rfl), h]
    rw [nodeB, nodeB, h, nodeB_congr d h1, nodeB_congr d h2]
/-- A place, out of what lies at it. -/
theorem nodeB_some (l : List Lf) (w d p : Nat) : nodeB (atP l d p) w d p = nodeB l w d p := nodeB_congr d (atP_same l d p)
theorem nodeB_below (l : List Lf) (w d p : Nat) {q : Nat} (h : q = 2 * p ∨ q = 2 * p + 1) : nodeB (atP l (d + 1) p) w d q = nodeB l w d q := nodeB_congr d (by
  rw [atP_sub h])
theorem nodeB_empty {w : Nat} : ∀ (d : Nat) {l : List Lf} {p : Nat}, atP l d p = [] → nodeB l w d p = emB w d
  | 0, l, p, h => by rw [nodeB, h]; rfl
  | d + 1, l, p, h => by rw [nodeB, if_pos h]
theorem nodeB_step (l : List Lf) (w d p : Nat) : nodeB l w (d + 1) p = hashB 3 [nodeB l w d (2 * p), nodeB l w d (2 * p + 1)] w := by
  rw [nodeB]
  split
  · rename_i h
    have h1 : atP l d (2 * p) = [] := by rw [← atP_sub (l := l) (.inl rfl), h]; rfl
    have h2 : atP l d (2 * p + 1) = [] := by rw [← atP_sub (l := l) (.inr rfl), h]; rfl
    rw [nodeB_empty d h1, nodeB_empty d h2]; rfl
  · rfl
/-- The other place of the two below one. -/
def sib (a : Nat) : Nat := if a % 2 = 0 then a + 1 else a - 1
/-- The hashes beside the way of an index, from the buckets up; n of them. -/
def sidesB (l : List Lf) (w ix n : Nat) : List Bs := (List.range n).map fun j => nodeB l w j (sib (ix / 2 ^ j))
theorem sidesB_len (l : List Lf) (w ix n : Nat) : (sidesB l w ix n).length = n := by simp [sidesB]
theorem sidesB_next (l : List Lf) (w ix n : Nat) : sidesB l w ix (n + 1) = sidesB l w ix n ++ [nodeB l w n (sib (ix / 2 ^ n))] := by simp [sidesB, List.range_succ]
theorem sidesB_wide {l : List Lf} {w ix n : Nat} (h : w ≤ 32) : ∀ s ∈ sidesB l w ix n, s.length = w := by
  intro s hs
  simp only [sidesB, List.mem_map] at hs
  obtain ⟨j, _, rfl⟩ := hs
  exact nodeB_len h _ _
/-- The bit of an index, j levels above the buckets. -/
def bitB (ix j : Nat) : Nat := ix / 2 ^ j % 2
def pairB (ix j : Nat) (h s : Bs) : List Bs := if bitB ix j = 1 then [s, h] else [h, s]
/-- The way up: the texts that are hashed, and the hash; j levels above the buckets at the start. -/
def foldS (ix w : Nat) : Nat → Bs → List Bs → List Bs × Bs
  | _, h, [] => ([], h)
  | j, h, s :: ss =>
    let t := tagB 3 (pairB ix j h s)
    (t :: (foldS ix w (j + 1) (cutB t w) ss).1, (foldS ix w (j + 1) (cutB t w) ss).2)
theorem foldS_len (ix w : Nat) : ∀ (ss : List Bs) (j : Nat) (h : Bs), (foldS ix w j h ss).1.length = ss.length
  | [], j, h => rfl
  | s :: ss, j, h => by simp [foldS, foldS_len ix w ss]
/-- Up the tree's own sides the hashes are the places'. -/
theorem fold_tree (l : List Lf) (w ix : Nat) : ∀ (n j : Nat), (foldS ix w j (nodeB l w j (ix / 2 ^ j)) ((List.range' j n).map fun i => nodeB l w i (sib (ix / 2 ^ i)))).2 = nodeB l w (j + n) (ix / 2 ^ (j + n))
  | 0, j => rfl
  | n + 1, j => by
    rw [List.range'_succ, List.map_cons, foldS]
    have hp : cutB (tagB 3 (pairB ix j (nodeB l w j (ix / 2 ^ j)) (nodeB l w j (sib (ix / 2 ^ j))))) w = nodeB l w (j + 1) (ix / 2 ^ (j + 1)) := by
      rw [nodeB_step]
      have e : ix / 2 ^ (j + 1) = ix / 2 ^ j / 2 := by rw [Nat.pow_succ, Nat.div_div_eq_div_mul]
      unfold pairB bitB hashB
      rw [e]
      generalize ix / 2 ^ j = a
      by_cases h : a % 2 = 1
      · have h1 : 2 * (a / 2) + 1 = a := by omega
        have h2 : sib a = 2 * (a / 2) := by unfold sib; rw [if_neg (by omega)]; omega
        rw [if_pos h, h1, h2]
      · have h1 : 2 * (a / 2) = a := by omega
        have h2 : sib a = 2 * (a / 2) + 1 := by unfold sib; rw [if_pos (by omega)]; omega
        rw [if_neg h, h2, h1]
    simp only
    rw [hp, fold_tree l w ix n (j + 1), show j + 1 + n = j + (n + 1) by omega]
/-- What is hashed last, and that its hash is the way's. -/
theorem fold_last (ix w : Nat) : ∀ (ss : List Bs) (j : Nat) (h t : Bs), h = cutB t w → cutB ((t :: (foldS ix w j h ss).1).getLastD []) w = (foldS ix w j h ss).2
  | [], j, h, t, e => by simp [foldS, e]
  | s :: ss, j, h, t, e => by
    simp only [foldS]
    have := fold_last ix w ss (j + 1) (cutB (tagB 3 (pairB ix j h s)) w) (tagB 3 (pairB ix j h s)) rfl
    simpa [List.getLastD_cons] using this
end Go.Proofs.YtmmnkndmlkhmhaaGreatDoor.Pl
