/- Functions by content: texts with a purpose, cut digests, hashes of what is empty, buckets. Functions by content: the program's tree: places and sides. Functions by content: the program's proofs. Functions by content: the program's proofs: written, judged, led up. Functions by content: the reference's tree. Functions by content: the reference's places and root. Functions by content: proofs of both sides, whatever they hold. Functions by content: the reference's texts of a proof. Functions by content: the reference's texts and hash of whatever proof. -/
import Derived.Test.YtgmbkbggnlponaaGreatDoorHb
import Derived.Test.YtgmbkbggnlponaaGreatDoorGg
import Derived.Test.YtgmbkbggnlponaaGreatDoorPlainM
namespace Go.Proofs.YtgmbkbggnlponaaGreatDoor
set_option maxRecDepth 100000
set_option maxHeartbeats 2000000
set_option linter.unusedVariables false
set_option linter.unusedSimpArgs false
set_option linter.unusedSectionVars false
open Go.RowKit Pl
attribute [local irreducible] z0t z0u z0y AnsP LeP
def z1q (ps : List Bs) : Prop := ps.length ≤ 60 ∧ ∀ p ∈ ps, p.length ≤ 200
def pAt (ps : List Bs) (k : Nat) : Bs := ps.getD k []
theorem zf7 {ps : List Bs} (h : z1q ps) (k : Nat) : (pAt ps k).length ≤ 200 := by
 unfold pAt
 rcases Nat.lt_or_ge k ps.length with hk | hk
 ·simp only [List.getD, List.getElem?_eq_getElem hk, Option.getD_some]; exact h.2 _ (List.getElem_mem hk)
 ·simp [List.getD, List.getElem?_eq_none hk]
theorem z0n {ps : List Bs} {k : Nat} (h : k < ps.length) : (strE ps)[k]? = some [.str (pAt ps k)] := by
 simp [strE, pAt, List.getD, List.getElem?_eq_getElem h]
def z3y (k : Nat) (ps : List Bs) (i : Nat) : Bs := UInt8.ofNat k :: (ps.take i).flatMap z0e
theorem z5m {k : Nat} {ps : List Bs} {i : Nat} (h : i < ps.length) : z3y k ps (i + 1) = z3y k ps i ++ z0e (pAt ps i) := by
 have : ps.take (i + 1) = ps.take i ++ [pAt ps i] := by
  rw [List.take_add_one, List.getElem?_eq_getElem h]; simp [pAt, List.getD, List.getElem?_eq_getElem h]
 rw [z3y, this]; simp [z3y]
theorem z3N {k : Nat} {ps : List Bs} (h : z1q ps) : ∀ i, (z3y k ps i).length ≤ 1 + 205 * i
 | 0 => by simp [z3y]
 | i + 1 => by
   rcases Nat.lt_or_ge i ps.length with hi | hi
   ·rw [z5m hi, List.length_append]
    have h1 := z3N (k := k) h i
    have h2 := zf7 h i
    have h3 := z2G (l := pAt ps i) (by omega)
    omega
   ·have h1 := z3N (k := k) h i
    have : z3y k ps (i + 1) = z3y k ps i := by unfold z3y; rw [List.take_of_length_le (by omega), List.take_of_length_le hi]
    rw [this]; omega
theorem z6N (k : Nat) (ps : List Bs) : z3y k ps ps.length = tagB k ps := by rw [z3y, List.take_length]; rfl
theorem z2e {k : Nat} {ps : List Bs} (h : z1q ps) : (tagB k ps).length ≤ 12301 := by
 have h1 := z3N (k := k) h ps.length
 rw [z6N] at h1
 have := h.1; omega
theorem z3O (k : Nat) (ps : List Bs) (hk : 1 ≤ k ∧ k ≤ 8) (hp : z1q ps) : CT Tryz.prog 131 [] [.int .i64 (k : Int), .sl 1 (strE ps)] (.tup [.str (tagB k ps), .bool true]) [] := by
 have hlen := z0c ps
 have hl60 := hp.1
 have c1 : CT Tryz.prog 22 [] [.int .i64 (k : Int), .int .i64 1, .int .i64 8] (.bool true) [] := by
  have := c_in (k : Int) 1 8
  rwa [z0r.2 (by omega)] at this
 rw [← z6N]
 refine z01 z0m 1 rfl Tryz.func131 rfl rfl rfl ?_
 repeat ((try conv => whnf); first | (refine ccA ([]) (c1) ?_) | (refine Exists.intro ps.length (And.intro hlen ?_)) | (refine w_u8 ?_) | (refine stpQ ?_))
 refine z0h 0 ⟨[(6, .ref 1)], [(1, some (.row 1 (z0f (z3y k ps ps.length))))], 2⟩ Nat (fun i => ⟨[(6, .ref 1), (20, .sl 1 (strE ps)), (21, .int .i64 (ps.length : Int)), (22, .int .i64 (i : Int))], [(1, some (.row 1 (z0f (z3y k ps i))))], 2⟩) (fun i => i ≤ ps.length) (fun i => ps.length - i) 0 (by omega) ?_ ?_ ?_
 ·(refine z02 (by rfl) ?_ ?_) <;> (repeat' (first | (exact eqA) | (refine shE ?_) | (refine And.intro ?_ ?_))) <;> first | rfl | decide
 ·intro i hi
  by_cases hlt : i < ps.length
  ·have hnx := z5m (k := k) hlt
   have hw := z3N (k := k) hp i
   have hpl := zf7 hp i
   have cs := zbl (pAt ps i) (by omega)
   have hsl := z2G (l := pAt ps i) (by omega)
   generalize z3y k ps i = o at hnx hw ⊢
   have hbl := z0F o
   have hb2 := z0F (z0e (pAt ps i))
   repeat ((try conv => whnf); first | (refine i_at (z0n hlt) ?_) | (refine ccA ([]) (cs) ?_) | (refine And.intro (by rw [List.length_append, hbl, hb2]; omega) ?_) | (refine stpQ ?_))
   refine ⟨i + 1, by omega, by omega, ?_⟩
   rw [hnx]
   (refine z02 (by rfl) ?_ ?_) <;> (repeat' (first | (exact eqA) | (refine shE ?_) | (refine And.intro ?_ ?_)))
   simp [z0f]
  ·have hie : i = ps.length := by omega
   rw [hie]
   repeat ((try conv => whnf); first | (refine stpQ ?_))
   (refine z02 (by rfl) ?_ ?_) <;> (repeat' (first | (exact eqA) | (refine shE ?_) | (refine And.intro ?_ ?_)))
 ·repeat ((try conv => whnf); first | (refine Exists.intro (z3y k ps ps.length) (And.intro rfl ?_)) | (refine stpQ ?_))
  (refine z00 (by rfl) ?_ ?_ (by rfl)) <;> (repeat' (first | (exact eqA) | (refine shE ?_) | (refine And.intro ?_ ?_)))
theorem z6O (t : Bs) (w : Nat) (ht : (t.length : Int) ≤ 100000000) (hw : 1 ≤ w ∧ w ≤ 32) : CT Tryz.prog 71 [] [.str t, .int .i64 (w : Int)] (.str (cutB t w)) [] := by
 have c1 := z8Y (w : Int)
 rw [z0r.2 (by omega)] at c1
 have c2 := za8 t ht
 have hl := z21 t
 unfold cutB
 generalize z2d t = d at c2 hl ⊢
 refine z01 z0m 1 rfl Tryz.func71 rfl rfl rfl ?_
 repeat ((try conv => whnf); first | (refine ccA ([]) (c1) ?_) | (refine ccA ([]) (c2) ?_) | (refine stpQ ?_))
 (refine z00 (by rfl) ?_ ?_ (by rfl)) <;> (repeat' (first | (exact eqA) | (refine shE ?_) | (refine And.intro ?_ ?_)))
theorem zf8 (k : Nat) (ps : List Bs) (w : Nat) (hk : 1 ≤ k ∧ k ≤ 8) (hp : z1q ps) (hw : 1 ≤ w ∧ w ≤ 32) : CT Tryz.prog 164 [] [.int .i64 (k : Int), .sl 1 (strE ps), .int .i64 (w : Int)] (.str (z14 k ps w)) [] := by
 have c1 := z3O k ps hk hp
 have hl := z2e (k := k) hp
 have c2 := z6O (tagB k ps) w (by omega) hw
 unfold z14
 generalize tagB k ps = t at c1 c2 hl ⊢
 refine z01 z0m 1 rfl Tryz.func164 rfl rfl rfl ?_
 repeat ((try conv => whnf); first | (refine ccA ([]) (c1) ?_) | (refine ccA ([]) (c2) ?_) | (refine stpQ ?_))
 (refine z00 (by rfl) ?_ ?_ (by rfl)) <;> (repeat' (first | (exact eqA) | (refine shE ?_) | (refine And.intro ?_ ?_)))
theorem z8Z (k : Nat) (ps : List Bs) (w : Nat) (hk : 1 ≤ k ∧ k ≤ 8) (hp : z1q ps) (hw : 1 ≤ w ∧ w ≤ 32) : CT Tryz.prog 129 [] [.int .i64 (k : Int), .int .i64 (w : Int), .sl 1 (strE ps)] (.str (z14 k ps w)) [] := by
 have c1 := zf8 k ps w hk hp hw
 refine z01 z0m 1 rfl Tryz.func129 rfl rfl rfl ?_
 repeat ((try conv => whnf); first | (refine ccA ([]) (c1) ?_) | (refine stpQ ?_))
 (refine z00 (by rfl) ?_ ?_ (by rfl)) <;> (repeat' (first | (exact eqA) | (refine shE ?_) | (refine And.intro ?_ ?_)))
theorem z6P : z1q [] := ⟨by simp, fun p h => by cases h⟩
theorem z1U {a b : Bs} (ha : a.length ≤ 200) (hb : b.length ≤ 200) : z1q [a, b] := ⟨by simp, fun p h => by
 rcases List.mem_cons.1 h with rfl | h
 ·exact ha
 ·rw [List.mem_singleton.1 h]; exact hb⟩
theorem z6Q {l : List Lf} {k : Nat} (h : k < l.length) : z2u (l.take (k + 1)) = z2u (l.take k) ++ [(lfAt l k).1, (lfAt l k).2] := by
 rw [z2b l k h]; simp [z2u]
theorem z5n (l : List Lf) : (z2u l).length = 2 * l.length := by
 induction l with
 | nil => rfl
 | cons x l ih => simp only [z2u, List.flatMap_cons, List.length_append, List.length_cons] at ih ⊢; simp at ih ⊢; omega
theorem z3P {l : List Lf} (h : leavesOk l = true) : z1q (z2u l) := by
 obtain ⟨h1, h2, _⟩ := z0K h
 refine ⟨by rw [z5n]; omega, fun p hp => ?_⟩
 simp only [z2u, List.mem_flatMap] at hp
 obtain ⟨x, hx, hp⟩ := hp
 have := h2 x hx
 have a := z1B this.1
 have b := z1J this.2
 rcases List.mem_cons.1 hp with rfl | hp
 ·omega
 ·rw [List.mem_singleton.1 hp]; omega
theorem z0R (a b : List Bs) : strE (a ++ b) = strE a ++ strE b := by simp [strE]
theorem za9 (l : List Lf) (h : leavesOk l = true) : CT Tryz.prog 132 [] [.sl 2 (lvE l)] (.str (z0T l)) [] := by
 have hlen := z0Q l
 have h24 := (z0K h).1
 have c1 := z3O (if l = [] then 1 else 2) (z2u l) (by split <;> omega) (z3P h)
 have e : z0T l = tagB (if l = [] then 1 else 2) (z2u l) := by
  unfold z0T
  split
  ·rename_i h0; subst h0; rfl
  ·rfl
 rw [e]
 refine z01 z0m 1 rfl Tryz.func132 rfl rfl rfl ?_
 repeat ((try conv => whnf); first | (refine Exists.intro l.length (And.intro hlen ?_)) | (refine stpQ ?_))
 refine z0h 0 ⟨[(3, .int .i64 ((if l = [] then 1 else 2 : Nat) : Int)), (4, .ref 1)], [(1, some (.row 1 (strE (z2u l))))], 2⟩ Nat (fun k => ⟨[(3, .int .i64 ((if l.take k = [] then 1 else 2 : Nat) : Int)), (4, .ref 1), (9, .sl 2 (lvE l)), (10, .int .i64 (l.length : Int)), (11, .int .i64 (k : Int))], [(1, some (.row 1 (strE (z2u (l.take k)))))], 2⟩) (fun k => k ≤ l.length) (fun k => l.length - k) 0 (by omega) ?_ ?_ ?_
 ·(refine z02 (by rfl) ?_ ?_) <;> (repeat' (first | (exact eqA) | (refine shE ?_) | (refine And.intro ?_ ?_))) <;> first | rfl | decide
 ·intro k hk
  by_cases hlt : k < l.length
  ·have hnx := z6Q hlt
   have hw := z5n (l.take k)
   have hne : ¬ (l.take (k + 1) = []) := fun h0 => by
    have := congrArg List.length h0
    rw [List.length_take, List.length_nil] at this; omega
   have hkl : (l.take k).length = k := by rw [List.length_take]; omega
   generalize z2u (l.take k) = o at hnx hw ⊢
   have hol := z0c o
   repeat ((try conv => whnf); first | (refine i_at (z1K hlt) ?_) | (refine And.intro (by simp [z0c]; omega) ?_) | (refine stpQ ?_))
   refine ⟨k + 1, by omega, by omega, ?_⟩
   rw [hnx, if_neg hne]
   (refine z02 (by rfl) ?_ ?_) <;> (repeat' (first | (exact eqA) | (refine shE ?_) | (refine And.intro ?_ ?_)))
   rw [z0R]; rfl
  ·have hke : k = l.length := by omega
   rw [hke, List.take_length]
   repeat ((try conv => whnf); first | (refine stpQ ?_))
   (refine z02 (by rfl) ?_ ?_) <;> (repeat' (first | (exact eqA) | (refine shE ?_) | (refine And.intro ?_ ?_)))
 ·generalize (if l = [] then 1 else 2 : Nat) = kk at c1 ⊢
  repeat ((try conv => whnf); first | (refine ccA ([]) (c1) ?_) | (refine stpQ ?_))
  (refine z00 (by rfl) ?_ ?_ (by rfl)) <;> (repeat' (first | (exact eqA) | (refine shE ?_) | (refine And.intro ?_ ?_)))
end Go.Proofs.YtgmbkbggnlponaaGreatDoor
namespace Go.Proofs.YtgmbkbggnlponaaGreatDoor
set_option linter.unusedVariables false
set_option linter.unusedSimpArgs false
set_option linter.unusedSectionVars false
open Go.RowKit Pl
attribute [local irreducible] z0t z0u z0y AnsP LeP
def ex3 : List (Nat × Ty) := [
 (180, ⟨3, 40, [.str [], .str [], .int .i64 0], .struct [(0, 147), (2, 3)], false⟩),
 (170, tySl 180),
 (3, zg8)]
set_option maxRecDepth 100000 in
set_option maxHeartbeats 4000000 in
theorem zi0 : ∀ p ∈ ex3, TyOk Tryz.prog p.1 p.2 := by
 simp only [ex3, List.forall_mem_cons]
 repeat' (refine And.intro ?_ ?_)
 all_goals first
  | exact (fun _ h => by cases h)
  | exact ⟨⟨_, _, rfl, rfl, rfl, rfl, rfl⟩, ⟨_, rfl, rfl⟩, rfl, rfl, fun h => (Bool.false_ne_true h).elim⟩
def ttL3 : List (Nat × Ty) := ttL ++ ex3
def tt3 : TT := lk ttL3
theorem zcB : TtOk Tryz.prog tt3 := fun t y h => by
 have hm : (t, y) ∈ ttL3 := z1P h
 rcases List.mem_append.1 hm with h | h
 ·exact z9Q (t, y) h
 ·exact zi0 (t, y) h
theorem z5o {l : List Lf} (h : leavesOk l = true) (k : Nat) : ((lfAt l k).1.length : Int) ≤ 100000000 := by
 obtain ⟨_, h2, _⟩ := z0K h
 unfold lfAt
 rcases Nat.lt_or_ge k l.length with hk | hk
 ·simp only [List.getD, List.getElem?_eq_getElem hk, Option.getD_some]
  have := z1B (h2 _ (List.getElem_mem hk)).1
  omega
 ·simp [List.getD, List.getElem?_eq_none hk]
theorem zgm {l : List Lf} {k d p : Nat} (h : k < l.length) : atP (l.take (k + 1)) d p = atP (l.take k) d p ++ (if ixB (lfAt l k).1 / 2 ^ d = p then [lfAt l k] else []) := by
 unfold atP
 rw [z2S h]
 by_cases he : ixB (lfAt l k).1 / 2 ^ d = p <;> simp [he]
theorem atP_ok {l : List Lf} {d p : Nat} (h : leavesOk l = true) : leavesOk (atP l d p) = true := by
 obtain ⟨h1, h2, h3⟩ := z0K h
 exact z9S (Nat.le_trans (List.length_filter_le _ _) h1) (fun x hx => h2 x (List.mem_filter.1 hx).1) (h3.filter _)
theorem z6R (a d : Nat) : ((a : Nat) : Int) / 2 ^ ((d : Nat) : Int).toNat = ((a / 2 ^ d : Nat) : Int) := by rw [Int.toNat_natCast]; simp
theorem z2T {l : List Lf} (h : leavesOk l = true) : (z0T l).length ≤ 12301 := by
 unfold z0T
 split
 ·exact z2e z6P
 ·exact z2e (z3P h)
end Go.Proofs.YtgmbkbggnlponaaGreatDoor
namespace Go.Proofs.YtgmbkbggnlponaaGreatDoor
set_option maxRecDepth 100000
set_option maxHeartbeats 1000000
set_option linter.unusedVariables false
set_option linter.unusedSimpArgs false
set_option linter.unusedSectionVars false
open Go.RowKit Pl
attribute [local irreducible] z0t z0u z0y AnsP LeP
theorem zcC : ∀ a < 256, bits .xor .i64 ((a : Nat) : Int) 1 = ((sib a : Nat) : Int) := by decide +kernel
theorem zf9 {ix j : Nat} (h : ix < 256) (hj : j < 8) : ix / 2 ^ j < 2 ^ (8 - j) ∧ sib (ix / 2 ^ j) < 2 ^ (8 - j) ∧ ix / 2 ^ j < 256 := by
 have key : ∀ ix < 256, ∀ j < 8, ix / 2 ^ j < 2 ^ (8 - j) ∧ sib (ix / 2 ^ j) < 2 ^ (8 - j) ∧ ix / 2 ^ j < 256 := by decide +kernel
 exact key ix h j hj
theorem zbt (l : List Lf) (s : List Bs) (nm : Bs) (hl : (l.length : Int) ≤ 1000000000) : CT Tryz.prog 24 [] [.str nm, .agg [.sl 2 (lvE l), .sl 1 (strE s)]] (.tup [.str ((z0I l nm).getD []), .bool (z0I l nm).isSome]) [] := by
 have c1 := zeX l nm hl
 generalize (z0I l nm).getD [] = a at c1 ⊢
 generalize (z0I l nm).isSome = b at c1 ⊢
 refine z01 z0m 1 rfl Tryz.func24 rfl rfl rfl ?_
 repeat ((try conv => whnf); first | (refine ccA ([]) (c1) ?_) | (refine And.intro (by kernel_rfl) ?_) | (refine stpQ ?_))
 (refine z00 (by rfl) ?_ ?_ (by rfl)) <;> (repeat' (first | (exact eqA) | (refine shE ?_) | (refine And.intro ?_ ?_)))
def zaa (s : List Bs) (w : Int) (k : Nat) : Bool := (s.take k).all fun x => decide ((x.length : Int) = w)
theorem zbu {s : List Bs} {w : Int} {k : Nat} (h : k < s.length) : zaa s w (k + 1) = (zaa s w k && decide (((pAt s k).length : Int) = w)) := by
 have : s.take (k + 1) = s.take k ++ [pAt s k] := by
  rw [List.take_add_one, List.getElem?_eq_getElem h]; simp [pAt, List.getD, List.getElem?_eq_getElem h]
 simp [zaa, this]
theorem zdw {s : List Bs} {w : Int} {k : Nat} (h : k < s.length) (hne : ¬ ((pAt s k).length : Int) = w) : (s.all fun x => decide ((x.length : Int) = w)) = false := by
 rw [List.all_eq_false]
 refine ⟨pAt s k, ?_, by simpa using hne⟩
 simp [pAt, List.getD, List.getElem?_eq_getElem h]
theorem z1r (s : List Bs) (n w : Int) (hs : (s.length : Int) ≤ 100000000) : CT Tryz.prog 57 [] [.sl 1 (strE s), .int .i64 n, .int .i64 w] (.bool ((s.all fun x => decide ((x.length : Int) = w)) && decide ((s.length : Int) = n))) [] := by
 have hlen := z0c s
 refine z01 z0m 1 rfl Tryz.func57 rfl rfl rfl ?_
 repeat ((try conv => whnf); first | (refine Exists.intro s.length (And.intro hlen ?_)) | (refine stpQ ?_))
 refine z0S Nat (fun k => ⟨[(0, .sl 1 (strE s)), (1, .int .i64 n), (2, .int .i64 w), (9, .sl 1 (strE s)), (10, .int .i64 (s.length : Int)), (11, .int .i64 (k : Int))], [], 2⟩) (fun k => k ≤ s.length ∧ zaa s w k = true) (fun k => s.length - k) 0 ⟨by omega, rfl⟩ ?_ ?_
 ·(refine z02 (by rfl) ?_ ?_) <;> repeat' (first | (exact eqA) | (refine shE ?_) | (refine And.intro ?_ ?_))
 ·intro k hkk
  have hk := hkk.1
  have hp := hkk.2
  by_cases hlt : k < s.length
  ·by_cases hq : ((pAt s k).length : Int) = w
   ·have hnx := zbu (w := w) hlt
    rw [hp, decide_eq_true hq] at hnx
    repeat ((try conv => whnf); first | (refine i_at (z0n hlt) ?_) | (refine z1C hq ?_) | (refine stpQ ?_))
    refine ⟨k + 1, ⟨by omega, hnx⟩, by omega, ?_⟩
    (refine z02 (by rfl) ?_ ?_) <;> repeat' (first | (exact eqA) | (refine shE ?_) | (refine And.intro ?_ ?_))
   ·rw [zdw hlt hq]
    repeat ((try conv => whnf); first | (refine i_at (z0n hlt) ?_) | (refine z30 hq ?_) | (refine stpQ ?_))
    (refine z00 (by rfl) ?_ ?_ (by rfl)) <;> (repeat' (first | (exact eqA) | (refine shE ?_) | (refine And.intro ?_ ?_))) <;> rfl
  ·have hke : k = s.length := by omega
   have hall : (s.all fun x => decide ((x.length : Int) = w)) = true := by rw [hke, zaa, List.take_length] at hp; exact hp
   rw [hall]
   repeat ((try conv => whnf); first | (refine Exists.intro s.length (And.intro hlen ?_)) | (refine stpQ ?_))
   (refine z00 (by rfl) ?_ ?_ (by rfl)) <;> (repeat' (first | (exact eqA) | (refine shE ?_) | (refine And.intro ?_ ?_))) <;> (rw [Bool.true_and])
end Go.Proofs.YtgmbkbggnlponaaGreatDoor
namespace Go.Proofs.YtgmbkbggnlponaaGreatDoor
set_option maxRecDepth 100000
set_option maxHeartbeats 4000000
set_option linter.unusedVariables false
set_option linter.unusedSimpArgs false
set_option linter.unusedSectionVars false
open Go.RowKit Pl
attribute [local irreducible] z0t z0u z0y AnsP LeP
theorem zcD {l : List Lf} (h : leavesOk l = true) : Sml l := by
 obtain ⟨h1, h2, _⟩ := z0K h
 refine ⟨by omega, fun i => ?_⟩
 rcases Nat.lt_or_ge i l.length with hl | hl
 ·have := h2 _ (List.getElem_mem hl)
  have a := z1B this.1
  have b := z1J this.2
  rw [z6C hl]; omega
 ·simp [lfAt, List.getD, List.getElem?_eq_none hl]
theorem zfa (s : List Bs) (w : Int) (hs : (s.length : Int) ≤ 1000000) : CT Tryz.prog 57 [] [.sl 1 (strE s), .int .i64 (s.length : Int), .int .i64 w] (.bool (s.all fun x => decide ((x.length : Int) = w))) [] := by
 have := z1r s (s.length : Int) w (by omega)
 rwa [decide_eq_true rfl, Bool.and_true] at this
def z1E (nm : Bs) (l : List Lf) (s : List Bs) (w : Int) : Bool :=
 z1d nm && (leavesOk l && (decide (s.length ≤ 8) && (inB w 1 32 && ((s.all fun x => decide ((x.length : Int) = w)) && decide ((z0v l (ixB nm : Int)).length = l.length)))))
theorem z6S (nm : Bs) (l : List Lf) (s : List Bs) (w : Int) (hnm : (nm.length : Int) ≤ 100000000) (hl : (l.length : Int) ≤ 1000000) (hf : Fit l) (hfn : ∀ k, ((lfAt l k).1.length : Int) ≤ 100000000) (hs : (s.length : Int) ≤ 1000000) :
 CT Tryz.prog 64 [] [.str nm, .agg [.sl 2 (lvE l), .sl 1 (strE s)], .int .i64 w] (.bool (z1E nm l s w)) [] := by
 have c1 := zcs nm (by omega)
 have c2 := z7U l (by omega) hf
 have c3 := z8Y w
 have c4 := zfa s w hs
 have c5 := z4U nm hnm
 have c6 := zdu l (ixB nm : Int) (by omega) hfn
 have hlen := z0c s
 have hll := z0Q l
 have hBl : (z0v l (ixB nm : Int)).length ≤ l.length := List.length_filter_le _ _
 have hlB := z0Q (z0v l (ixB nm : Int))
 unfold z1E
 generalize z0v l (ixB nm : Int) = B at c6 hBl hlB ⊢
 generalize (s.all fun x => decide ((x.length : Int) = w)) = b4 at c4 ⊢
 generalize inB w 1 32 = b3 at c3 ⊢
 generalize leavesOk l = b2 at c2 ⊢
 generalize z1d nm = b1 at c1 ⊢
 refine z01 z0m 1 rfl Tryz.func64 rfl rfl rfl ?_
 cases b1
 ·repeat ((try conv => whnf); first | (refine ccA ([]) (c1) ?_) | (refine stpQ ?_))
  (refine z00 (by rfl) ?_ ?_ (by rfl)) <;> (repeat' (first | (exact eqA) | (refine shE ?_) | (refine And.intro ?_ ?_))) <;> rfl
 cases b2
 ·repeat ((try conv => whnf); first | (refine ccA ([]) (c1) ?_) | (refine ccA ([]) (c2) ?_) | (refine stpQ ?_))
  (refine z00 (by rfl) ?_ ?_ (by rfl)) <;> (repeat' (first | (exact eqA) | (refine shE ?_) | (refine And.intro ?_ ?_))) <;> rfl
 by_cases h8 : s.length ≤ 8
 ·rw [decide_eq_true h8]
  cases b3
  ·repeat ((try conv => whnf); first | (refine ccA ([]) (c1) ?_) | (refine ccA ([]) (c2) ?_) | (refine ccA ([]) (c3) ?_) | (refine Exists.intro s.length (And.intro hlen ?_)) | (refine stpQ ?_))
   (refine z00 (by rfl) ?_ ?_ (by rfl)) <;> (repeat' (first | (exact eqA) | (refine shE ?_) | (refine And.intro ?_ ?_))) <;> rfl
  cases b4
  ·repeat ((try conv => whnf); first | (refine ccA ([]) (c1) ?_) | (refine ccA ([]) (c2) ?_) | (refine ccA ([]) (c3) ?_) | (refine ccA ([]) (c4) ?_) | (refine Exists.intro s.length (And.intro hlen ?_)) | (refine stpQ ?_))
   (refine z00 (by rfl) ?_ ?_ (by rfl)) <;> (repeat' (first | (exact eqA) | (refine shE ?_) | (refine And.intro ?_ ?_))) <;> rfl
  repeat ((try conv => whnf); first | (refine ccA ([]) (c1) ?_) | (refine ccA ([]) (c2) ?_) | (refine ccA ([]) (c3) ?_) | (refine ccA ([]) (c4) ?_) | (refine ccA ([]) (c5) ?_) | (refine ccA ([]) (c6) ?_) | (refine Exists.intro s.length (And.intro hlen ?_)) | (refine Exists.intro B.length (And.intro hlB ?_)) | (refine Exists.intro l.length (And.intro hll ?_)) | (refine And.intro (by kernel_rfl) ?_) | (refine stpQ ?_))
  (refine z00 (by rfl) ?_ ?_ (by rfl)) <;> (repeat' (first | (exact eqA) | (refine shE ?_) | (refine And.intro ?_ ?_)))
  by_cases hq : B.length = l.length
  ·rw [decide_eq_true hq, decide_eq_true (by omega)]; rfl
  ·rw [decide_eq_false hq, decide_eq_false (by omega)]; rfl
 ·rw [decide_eq_false h8]
  repeat ((try conv => whnf); first | (refine ccA ([]) (c1) ?_) | (refine ccA ([]) (c2) ?_) | (refine Exists.intro s.length (And.intro hlen ?_)) | (refine stpQ ?_))
  (refine z00 (by rfl) ?_ ?_ (by rfl)) <;> (repeat' (first | (exact eqA) | (refine shE ?_) | (refine And.intro ?_ ?_))) <;> rfl
theorem zbv : ∀ a < 256, bits .and .i64 ((a : Nat) : Int) 1 = ((a % 2 : Nat) : Int) := by decide +kernel
theorem zbw (ix j : Nat) (hix : ix < 256) (hj : j < 8) : CT Tryz.prog 130 [] [.int .i64 (ix : Int), .int .i64 (7 - (j : Int))] (.int .i64 ((bitB ix j : Nat) : Int)) [] := by
 have c1 : CT Tryz.prog 22 [] [.int .i64 (7 - (j : Int)), .int .i64 0, .int .i64 7] (.bool true) [] := by
  have := c_in (7 - (j : Int)) 0 7
  rwa [z0r.2 (by omega)] at this
 have e1 : IntKind.i64.wrap (7 - (7 - (j : Int))) = ((j : Nat) : Int) := by rw [wrap_i64 (by omega) (by omega)]; omega
 have e2 := z6R ix j
 have e3 := zbv (ix / 2 ^ j) (zf9 hix hj).2.2
 unfold bitB
 refine z01 z0m 1 rfl Tryz.func130 rfl rfl rfl ?_
 repeat ((try conv => whnf); first | (refine ccA ([]) (c1) ?_) | (refine Exists.intro _ (And.intro e1.symm ?_)) | (refine And.intro (show _ ≤ (64 : Int) from by omega) ?_) | (refine Exists.intro _ (And.intro e2.symm ?_)) | (refine Exists.intro _ (And.intro e3.symm ?_)) | (refine stpQ ?_))
 (refine z00 (by rfl) ?_ ?_ (by rfl)) <;> (repeat' (first | (exact eqA) | (refine shE ?_) | (refine And.intro ?_ ?_)))
def FdAt (R : List Bs × Bs) (ix w : Nat) (T : List Bs) (j : Nat) (h : Bs) (rest : List Bs) : Prop := R = (T ++ (z0Y ix w j h rest).1, (z0Y ix w j h rest).2)
theorem FdAt.step {R : List Bs × Bs} {ix w : Nat} {T : List Bs} {j : Nat} {h s : Bs} {rest : List Bs} (hR : FdAt R ix w T j h (s :: rest)) : FdAt R ix w (T ++ [tagB 3 (z1p ix j h s)]) (j + 1) (cutB (tagB 3 (z1p ix j h s)) w) rest := by
 unfold FdAt at hR ⊢; rw [hR]; simp [z0Y]
theorem FdAt.done {R : List Bs × Bs} {ix w : Nat} {T : List Bs} {j : Nat} {h : Bs} (hR : FdAt R ix w T j h []) : R = (T, h) := by
 unfold FdAt at hR; rw [hR]; simp [z0Y]
theorem z6T {ix j : Nat} {h s : Bs} (hh : h.length ≤ 200) (hs : s.length ≤ 200) : z1q (z1p ix j h s) := by
 unfold z1p
 split
 ·exact z1U hs hh
 ·exact z1U hh hs
theorem z61 {s : List Bs} {k : Nat} (h : k < s.length) : s.drop k = pAt s k :: s.drop (k + 1) := by
 rw [List.drop_eq_getElem_cons h]; simp [pAt, List.getD, List.getElem?_eq_getElem h]
theorem zbx (h : Bs) (ix w : Nat) (s : List Bs) (hix : ix < 256) (hw : 1 ≤ w ∧ w ≤ 32) (hs : s.length ≤ 8) (hh : h.length ≤ 200) (hsl : ∀ x ∈ s, x.length ≤ 200) :
 CT Tryz.prog 69 [] [.str h, .int .i64 (ix : Int), .int .i64 8, .sl 1 (strE s), .int .i64 (w : Int)] (.tup [.ref 1, .str (z0Y ix w 0 h s).2]) [.row 1 (strE (z0Y ix w 0 h s).1)] := by
 have hlen := z0c s
 have hR0 : FdAt (z0Y ix w 0 h s) ix w [] 0 h (s.drop 0) := rfl
 generalize z0Y ix w 0 h s = R at hR0 ⊢
 refine z01 z0m 1 rfl Tryz.func69 rfl rfl rfl ?_
 repeat ((try conv => whnf); first | (refine Exists.intro s.length (And.intro hlen ?_)) | (refine stpQ ?_))
 refine z0h 0 ⟨[(0, .str R.2), (12, .ref 1)], [(1, some (.row 1 (strE R.1)))], 2⟩ (Nat × Bs × List Bs) (fun x => ⟨[(0, .str x.2.1), (1, .int .i64 (ix : Int)), (2, .int .i64 (8 - (x.1 : Int))), (4, .int .i64 (w : Int)), (12, .ref 1), (18, .sl 1 (strE s)), (19, .int .i64 (s.length : Int)), (20, .int .i64 (x.1 : Int))], [(1, some (.row 1 (strE x.2.2)))], 2⟩) (fun x => x.1 ≤ s.length ∧ x.2.1.length ≤ 200 ∧ x.2.2.length = x.1 ∧ FdAt R ix w x.2.2 x.1 x.2.1 (s.drop x.1)) (fun x => s.length - x.1) (0, h, []) ⟨by simp, hh, rfl, hR0⟩ ?_ ?_ ?_
 ·(refine z02 (by rfl) ?_ ?_) <;> (repeat' (first | (exact eqA) | (refine shE ?_) | (refine And.intro ?_ ?_))) <;> first | rfl | decide
 ·intro x hx
  obtain ⟨k, hk0, T⟩ := x
  have hk : k ≤ s.length := hx.1
  have hl : hk0.length ≤ 200 := hx.2.1
  have hT : T.length = k := hx.2.2.1
  have hat : FdAt R ix w T k hk0 (s.drop k) := hx.2.2.2
  clear hx
  have hTl := z0c T
  by_cases hlt : k < s.length
  ·rw [z61 hlt] at hat
   have hst := hat.step
   have hpl : (pAt s k).length ≤ 200 := by simp only [pAt, List.getD, List.getElem?_eq_getElem hlt, Option.getD_some]; exact hsl _ (List.getElem_mem hlt)
   have hpo := z6T (ix := ix) (j := k) hl hpl
   have c1 := zbw ix k hix (by omega)
   have c2 := z3O 3 (z1p ix k hk0 (pAt s k)) (by omega) hpo
   have hcl := z1M (t := tagB 3 (z1p ix k hk0 (pAt s k))) hw.2
   have htl := z2e (k := 3) hpo
   have c3 := z6O (tagB 3 (z1p ix k hk0 (pAt s k))) w (by omega) hw
   have e1 : IntKind.i64.wrap (8 - (k : Int) - 1) = 7 - (k : Int) := by rw [wrap_i64 (by omega) (by omega)]; omega
   have e2 : 7 - (k : Int) = 8 - ((k + 1 : Nat) : Int) := by omega
   by_cases hb : bitB ix k = 1
   ·have hb2 : ((bitB ix k : Nat) : Int) = 1 := by omega
    have hpr : z1p ix k hk0 (pAt s k) = [pAt s k, hk0] := by unfold z1p; rw [if_pos hb]
    rw [hpr] at c2 c3 hst hcl htl
    generalize tagB 3 [pAt s k, hk0] = tg at c2 c3 hst hcl htl
    generalize cutB tg w = ct at c3 hst hcl
    repeat ((try conv => whnf); first | (refine i_at (z0n hlt) ?_) | (refine Exists.intro _ (And.intro e1.symm ?_)) | (refine ccA ([]) (c1) ?_) | (refine z0i hb2 ?_) | (refine ccA ([]) (c2) ?_) | (refine ccA ([]) (c3) ?_) | (refine And.intro (by rw [List.length_append]; simp; omega) ?_) | (refine stpQ ?_))
    refine ⟨(k + 1, ct, T ++ [tg]), ⟨by show k + 1 ≤ _; omega, by show ct.length ≤ 200; omega, by simp [hT], hst⟩, (by show s.length - (k + 1) < s.length - k; omega), ?_⟩
    (refine z02 (by rfl) ?_ ?_) <;> (repeat' (first | (exact eqA) | (refine shE ?_) | (refine And.intro ?_ ?_)))
    all_goals first
     | exact e2
     | (rw [z0R]; rfl)
   ·have hb2 : ¬ ((bitB ix k : Nat) : Int) = 1 := by omega
    have hpr : z1p ix k hk0 (pAt s k) = [hk0, pAt s k] := by unfold z1p; rw [if_neg hb]
    rw [hpr] at c2 c3 hst hcl htl
    generalize tagB 3 [hk0, pAt s k] = tg at c2 c3 hst hcl htl
    generalize cutB tg w = ct at c3 hst hcl
    repeat ((try conv => whnf); first | (refine i_at (z0n hlt) ?_) | (refine Exists.intro _ (And.intro e1.symm ?_)) | (refine ccA ([]) (c1) ?_) | (refine z0k hb2 ?_) | (refine ccA ([]) (c2) ?_) | (refine ccA ([]) (c3) ?_) | (refine And.intro (by rw [List.length_append]; simp; omega) ?_) | (refine stpQ ?_))
    refine ⟨(k + 1, ct, T ++ [tg]), ⟨by show k + 1 ≤ _; omega, by show ct.length ≤ 200; omega, by simp [hT], hst⟩, (by show s.length - (k + 1) < s.length - k; omega), ?_⟩
    (refine z02 (by rfl) ?_ ?_) <;> (repeat' (first | (exact eqA) | (refine shE ?_) | (refine And.intro ?_ ?_)))
    all_goals first
     | exact e2
     | (rw [z0R]; rfl)
  ·have hke : k = s.length := by omega
   rw [hke, List.drop_length] at hat
   rw [hat.done]
   repeat ((try conv => whnf); first | (refine stpQ ?_))
   (refine z02 (by rfl) ?_ ?_) <;> (repeat' (first | (exact eqA) | (refine shE ?_) | (refine And.intro ?_ ?_)))
 ·obtain ⟨a, b⟩ := R
  repeat ((try conv => whnf); first | (refine stpQ ?_))
  (refine z00 (by rfl) ?_ ?_ (by rfl)) <;> (repeat' (first | (exact eqA) | (refine shE ?_) | (refine And.intro ?_ ?_)))
def z1e (nm : Bs) (l : List Lf) (s : List Bs) (w : Nat) : List Bs := z0T l :: (z0Y (ixB nm) w 0 (cutB (z0T l) w) s).1
theorem z3Q {nm : Bs} {l : List Lf} {s : List Bs} {w : Int} (h : z1E nm l s w = true) : z1d nm = true ∧ leavesOk l = true ∧ s.length ≤ 8 ∧ (1 ≤ w ∧ w ≤ 32) ∧ (∀ x ∈ s, (x.length : Int) = w) ∧ (z0v l (ixB nm : Int)).length = l.length := by
 unfold z1E at h
 simp only [Bool.and_eq_true, decide_eq_true_eq, List.all_eq_true] at h
 obtain ⟨h1, h2, h3, h4, h5, h6⟩ := h
 exact ⟨h1, h2, h3, z0r.1 h4, h5, h6⟩
theorem z5G (nm : Bs) (l : List Lf) (s : List Bs) (w : Nat) (h : z1E nm l s (w : Int) = true) :
 CT Tryz.prog 70 [] [.str nm, .agg [.sl 2 (lvE l), .sl 1 (strE s)], .int .i64 (w : Int)] (.ref 1) [.row 1 (strE (z1e nm l s w))] := by
 obtain ⟨h1, h2, h3, h4, h5, h6⟩ := z3Q h
 have hnl := z1B h1
 have h24 := (z0K h2).1
 have c1 := z6S nm l s (w : Int) (by omega) (by omega) (zcD h2).fit (z5o h2) (by omega)
 rw [h] at c1
 have c2 := za9 l h2
 have hbl := z2T h2
 have c3 := z6O (z0T l) w (by omega) (by omega)
 have hcl := z1M (t := z0T l) (w := w) (by omega)
 have c4 := z4U nm (by omega)
 have c5 := zbx (cutB (z0T l) w) (ixB nm) w s (z6J nm) (by omega) h3 (by omega) (fun x hx => by have := h5 x hx; omega)
 have hfl := z3K (ixB nm) w s 0 (cutB (z0T l) w)
 unfold z1e
 generalize z0Y (ixB nm) w 0 (cutB (z0T l) w) s = R at c5 hfl ⊢
 generalize cutB (z0T l) w = ct at c3 c5
 generalize z0T l = t at c2 c3 ⊢
 have hRl := z0c R.1
 refine z01 z0m 1 rfl Tryz.func70 rfl rfl rfl ?_
 repeat ((try conv => whnf); first | (refine ccA ([]) (c1) ?_) | (refine ccA ([]) (c2) ?_) | (refine ccA ([]) (c3) ?_) | (refine ccA ([]) (c4) ?_) | (refine z29 ([]) (c5) (by ((repeat' (first | (exact trivial) | (exact rfl) | (refine And.intro ?_ ?_))); first | done | fail)) (by ((repeat' (first | (exact trivial) | (exact rfl) | (refine And.intro ?_ ?_))); first | done | fail)) (by decide) (by rfl) (by first | exact .inl rfl | (refine .inr ⟨by simp [own2, own1, own0], fun e he => ?_⟩; simp only [List.mem_cons, List.not_mem_nil, or_false] at he <;> first | exact he.elim | (subst he; (first | exact z0C _ | exact z0q _)) | (rcases he with rfl | rfl <;> (first | exact z0C _ | exact z0q _)))) ?_) | (refine And.intro (by rw [List.length_append, hRl]; simp; omega) ?_) | (refine And.intro (by kernel_rfl) ?_) | (refine stpQ ?_))
 (refine z00 (by rfl) ?_ ?_ (by rfl)) <;> (repeat' (first | (exact eqA) | (refine shE ?_) | (refine And.intro ?_ ?_)))
 rfl
theorem z42 (nm : Bs) (l : List Lf) (s : List Bs) (w : Nat) : (z1e nm l s w).length = s.length + 1 := by rw [z1e, List.length_cons, z3K]
theorem z6U (nm : Bs) (l : List Lf) (s : List Bs) (w : Nat) : pAt (z1e nm l s w) s.length = (z1e nm l s w).getLastD [] := by
 have hl := z42 nm l s w
 generalize z1e nm l s w = t at hl ⊢
 have hne : t ≠ [] := fun h0 => by rw [h0] at hl; simp at hl
 rw [List.getLastD_eq_getLast?, List.getLast?_eq_getElem?, pAt, List.getD, hl, Nat.add_sub_cancel]
theorem z4X {l : List Bs} {ix w : Nat} : ∀ {s : List Bs} {j : Nat} {h : Bs}, h.length ≤ 200 → w ≤ 32 → (∀ x ∈ s, x.length ≤ 200) → ∀ t ∈ (z0Y ix w j h s).1, t.length ≤ 12301
 | [], j, h, _, _, _, t, ht => by cases ht
 | s :: ss, j, h, hh, hw, hs, t, ht => by
   simp only [z0Y, List.mem_cons] at ht
   rcases ht with rfl | ht
   ·exact z2e (z6T hh (hs s (by simp)))
   ·exact z4X (l := l) (by rw [z1M hw]; omega) hw (fun x hx => hs x (List.mem_cons_of_mem _ hx)) t ht
def z5N (nm : Bs) (l : List Lf) (s : List Bs) (w : Nat) : Bs := (z0Y (ixB nm) w 0 (cutB (z0T l) w) s).2
theorem zby (nm : Bs) (l : List Lf) (s : List Bs) (w : Nat) (h : z1E nm l s (w : Int) = true) :
 CT Tryz.prog 20 [] [.str nm, .agg [.sl 2 (lvE l), .sl 1 (strE s)], .int .i64 (w : Int)] (.str (z5N nm l s w)) [] := by
 obtain ⟨h1, h2, h3, h4, h5, h6⟩ := z3Q h
 have c1 := z5G nm l s w h
 have hl := z42 nm l s w
 have hla := z6U nm l s w
 have e : z5N nm l s w = cutB (pAt (z1e nm l s w) s.length) w := by rw [hla]; exact (z4Q _ _ _ _ _ _ rfl).symm
 have hsm : (pAt (z1e nm l s w) s.length).length ≤ 12301 := by
  have hm : pAt (z1e nm l s w) s.length ∈ z1e nm l s w := by
   simp only [pAt, List.getD, List.getElem?_eq_getElem (show s.length < (z1e nm l s w).length by omega), Option.getD_some]
   exact List.getElem_mem _
  rcases List.mem_cons.1 hm with hm | hm
  ·rw [hm]; exact z2T h2
  ·exact z4X (l := []) (by rw [z1M (by omega)]; omega) (by omega) (fun x hx => by have := h5 x hx; omega) _ hm
 have c2 := z6O (pAt (z1e nm l s w) s.length) w (by omega) (by omega)
 rw [e]
 have hlt : s.length < (z1e nm l s w).length := by omega
 generalize z1e nm l s w = t at c1 c2 hl hlt ⊢
 have htl := z0c t
 refine z01 z0m 1 rfl Tryz.func20 rfl rfl rfl ?_
 repeat ((try conv => whnf); first | (refine z29 ([]) (c1) (by ((repeat' (first | (exact trivial) | (exact rfl) | (refine And.intro ?_ ?_))); first | done | fail)) (by ((repeat' (first | (exact trivial) | (exact rfl) | (refine And.intro ?_ ?_))); first | done | fail)) (by decide) (by rfl) (by first | exact .inl rfl | (refine .inr ⟨by simp [own2, own1, own0], fun e he => ?_⟩; simp only [List.mem_cons, List.not_mem_nil, or_false] at he <;> first | exact he.elim | (subst he; (first | exact z0C _ | exact z0q _)) | (rcases he with rfl | rfl <;> (first | exact z0C _ | exact z0q _)))) ?_) | (refine Exists.intro (s.length + 1) (And.intro (by rw [htl, hl]) ?_)) | (refine i_lt (i := s.length) (by omega) ?_) | (refine Exists.intro _ (And.intro (z0n hlt) ?_)) | (refine ccA ([]) (c2) ?_) | (refine stpQ ?_))
 (refine z00 (by rfl) ?_ ?_ (by rfl)) <;> (repeat' (first | (exact eqA) | (refine shE ?_) | (refine And.intro ?_ ?_)))
end Go.Proofs.YtgmbkbggnlponaaGreatDoor
namespace Go.Proofs.YtgmbkbggnlponaaGreatDoor
set_option maxRecDepth 100000
set_option maxHeartbeats 4000000
set_option linter.unusedVariables false
set_option linter.unusedSimpArgs false
set_option linter.unusedSectionVars false
open Go.RowKit Pl
attribute [local irreducible] z0t z0u z0y AnsP LeP
theorem z6V (t : Bs) (w : Nat) (ht : (t.length : Int) ≤ 100000000) (hw : 1 ≤ w ∧ w ≤ 32) : CT Tryz.prog 84 [] [.str t, .int .i64 (w : Int)] (.str (cutB t w)) [] := by
 have c1 := z10 (w : Int) 1 32
 rw [z0r.2 (by omega)] at c1
 have c2 := z8W t ht
 have hl := z21 t
 unfold cutB
 generalize z2d t = d at c2 hl ⊢
 refine z01 z0m 1 rfl Tryz.func84 rfl rfl rfl ?_
 repeat ((try conv => whnf); first | (refine ccA ([]) (c1) ?_) | (refine ccA ([]) (c2) ?_) | (refine stpQ ?_))
 (refine z00 (by rfl) ?_ ?_ (by rfl)) <;> (repeat' (first | (exact eqA) | (refine shE ?_) | (refine And.intro ?_ ?_)))
theorem z43 (k : Nat) (ps : List Bs) (hk : 1 ≤ k ∧ k ≤ 8) (hp : z1q ps) : CT Tryz.prog 141 [] [.int .i64 (k : Int), .sl 1 (strE ps)] (.tup [.str (tagB k ps), .bool true]) [] := by
 have hlen := z0c ps
 have hl60 := hp.1
 have c1 : CT Tryz.prog 30 [] [.int .i64 (k : Int), .int .i64 1, .int .i64 8] (.bool true) [] := by
  have := z10 (k : Int) 1 8
  rwa [z0r.2 (by omega)] at this
 rw [← z6N]
 refine z01 z0m 1 rfl Tryz.func141 rfl rfl rfl ?_
 repeat ((try conv => whnf); first | (refine ccA ([]) (c1) ?_) | (refine Exists.intro ps.length (And.intro hlen ?_)) | (refine w_u8 ?_) | (refine Exists.intro [UInt8.ofNat k] (And.intro rfl ?_)) | (refine stpQ ?_))
 refine z0h 0 ⟨[(6, .str (z3y k ps ps.length))], [], 2⟩ Nat (fun i => ⟨[(1, .sl 1 (strE ps)), (6, .str (z3y k ps i)), (7, .int .i64 (i : Int))], [], 2⟩) (fun i => i ≤ ps.length) (fun i => ps.length - i) 0 (by omega) ?_ ?_ ?_
 ·(refine z02 (by rfl) ?_ ?_) <;> (repeat' (first | (exact eqA) | (refine shE ?_) | (refine And.intro ?_ ?_))) <;> first | rfl | decide
 ·intro i hi
  by_cases hlt : i < ps.length
  ·have hnx := z5m (k := k) hlt
   have hw := z3N (k := k) hp i
   have hpl := zf7 hp i
   have cs := z2Z (pAt ps i).length (by omega)
   have hvl := z0O (n := (pAt ps i).length) (by omega)
   generalize z3y k ps i = o at hnx hw ⊢
   have hsh : z0e (pAt ps i) = z0g (pAt ps i).length ++ pAt ps i := rfl
   rw [hsh] at hnx
   generalize z0g (pAt ps i).length = v at cs hvl hnx
   repeat ((try conv => whnf); first | (refine Exists.intro ps.length (And.intro hlen ?_)) | (refine i_at (z0n hlt) ?_) | (refine ccA ([]) (cs) ?_) | (refine And.intro (by rw [List.length_append]; omega) ?_) | (refine And.intro (by kernel_rfl) ?_) | (refine stpQ ?_))
   refine ⟨i + 1, by omega, by omega, ?_⟩
   rw [hnx]
   (refine z02 (by rfl) ?_ ?_) <;> (repeat' (first | (exact eqA) | (refine shE ?_) | (refine And.intro ?_ ?_)))
   rw [List.append_assoc]
  ·have hie : i = ps.length := by omega
   rw [hie]
   repeat ((try conv => whnf); first | (refine Exists.intro ps.length (And.intro hlen ?_)) | (refine stpQ ?_))
   (refine z02 (by rfl) ?_ ?_) <;> (repeat' (first | (exact eqA) | (refine shE ?_) | (refine And.intro ?_ ?_)))
 ·repeat ((try conv => whnf); first | (refine stpQ ?_))
  (refine z00 (by rfl) ?_ ?_ (by rfl)) <;> (repeat' (first | (exact eqA) | (refine shE ?_) | (refine And.intro ?_ ?_)))
theorem z0U (k : Nat) (ps : List Bs) (w : Nat) (hk : 1 ≤ k ∧ k ≤ 8) (hp : z1q ps) (hw : 1 ≤ w ∧ w ≤ 32) : CT Tryz.prog 82 [] [.int .i64 (k : Int), .sl 1 (strE ps), .int .i64 (w : Int)] (.str (z14 k ps w)) [] := by
 have c1 := z43 k ps hk hp
 have hl := z2e (k := k) hp
 have c2 := z6V (tagB k ps) w (by omega) hw
 unfold z14
 generalize tagB k ps = t at c1 c2 hl ⊢
 refine z01 z0m 1 rfl Tryz.func82 rfl rfl rfl ?_
 repeat ((try conv => whnf); first | (refine ccA ([]) (c1) ?_) | (refine ccA ([]) (c2) ?_) | (refine stpQ ?_))
 (refine z00 (by rfl) ?_ ?_ (by rfl)) <;> (repeat' (first | (exact eqA) | (refine shE ?_) | (refine And.intro ?_ ?_)))
def empJ (w j : Nat) : List Bs := (List.range 9).map fun i => if 8 - j ≤ i then emB w (8 - i) else []
theorem zcE (w j : Nat) : (empJ w j).length = 9 := by simp [empJ]
theorem zfb {w j i : Nat} (hi : i < 9) (hj : 8 - j ≤ i) : pAt (empJ w j) i = emB w (8 - i) := by
 simp only [pAt, empJ, List.getD, List.getElem?_map, List.getElem?_range hi, Option.map_some, Option.getD_some, if_pos hj]
theorem zgn (w j : Nat) (hj : j < 8) : (empJ w j).set (7 - j) (emB w (j + 1)) = empJ w (j + 1) := by
 apply List.ext_getElem?
 intro i
 rw [List.getElem?_set]
 by_cases hi : i < 9
 ·simp only [empJ, List.getElem?_map, List.getElem?_range hi, Option.map_some, List.length_map, List.length_range]
  by_cases h1 : 7 - j = i
  ·subst h1
   have e1 : 8 - (7 - j) = j + 1 := by omega
   have e2 : 8 - (j + 1) ≤ 7 - j := by omega
   rw [if_pos rfl, if_pos hi, e1, if_pos e2]
  ·rw [if_neg h1]
   by_cases h2 : 8 - j ≤ i
   ·rw [if_pos h2, if_pos (by omega)]
   ·rw [if_neg h2, if_neg (by omega)]
 ·have h1 : ¬ (7 - j = i) := by omega
  rw [if_neg h1]
  simp [empJ, hi]
theorem zgo (l : List Bs) (i : Nat) (x : Bs) : (strE l).set i [.str x] = strE (l.set i x) := by simp [strE, List.map_set]
theorem zab (w : Nat) (hw : 1 ≤ w ∧ w ≤ 32) : CT Tryz.prog 157 [] [.int .i64 (w : Int)] (.ref 1) [.row 1 (strE (empJ w 8))] := by
 have c1 := z0U 1 [] w (by omega) z6P hw
 refine z01 z0m 1 rfl Tryz.func157 rfl rfl rfl ?_
 repeat ((try conv => whnf); first | (refine ccA ([]) (c1) ?_) | (refine Exists.intro 9 (And.intro rfl ?_)) | (refine i_lt (i := 8) (by simp) ?_) | (refine Exists.intro _ (And.intro rfl ?_)) | (refine And.intro (by kernel_rfl) ?_) | (refine stpQ ?_))
 refine z0h 0 ⟨[(3, .ref 1)], [(1, some (.row 1 (strE (empJ w 8))))], 2⟩ Nat (fun j => ⟨[(0, .int .i64 (w : Int)), (3, .ref 1), (4, .int .i64 (7 - (j : Int)))], [(1, some (.row 1 (strE (empJ w j))))], 2⟩) (fun j => j ≤ 8) (fun j => 8 - j) 0 (by omega) ?_ ?_ ?_
 ·(refine z02 (by rfl) ?_ ?_) <;> (repeat' (first | (exact eqA) | (refine shE ?_) | (refine And.intro ?_ ?_))) <;> first | rfl | decide
 ·intro j hj
  by_cases hlt : j < 8
  ·have hst := zgn w j hlt
   have hl := zcE w j
   have he := zfb (w := w) (j := j) (i := 7 - j + 1) (by omega) (by omega)
   have e8 : 8 - (7 - j + 1) = j := by omega
   rw [e8] at he
   have hel := zf3 hw.2 j
   have c2 := z0U 3 [emB w j, emB w j] w (by omega) (z1U (by omega) (by omega)) hw
   have hnx : emB w (j + 1) = z14 3 [emB w j, emB w j] w := rfl
   have e7 : 7 - (j : Int) = ((7 - j : Nat) : Int) := by omega
   have e4 : IntKind.i64.wrap (((7 - j : Nat) : Int) - 1) = 7 - ((j + 1 : Nat) : Int) := by rw [wrap_i64 (by omega) (by omega)]; omega
   rw [hnx] at hst
   generalize emB w j = o at he hel c2 hst
   generalize empJ w j = em at hst hl he ⊢
   have hml := z0c em
   have hlt2 : 7 - j + 1 < em.length := by omega
   have hg := z0n hlt2
   rw [he] at hg
   have hlt3 : 7 - j < em.length := by omega
   have hg3 := z0n hlt3
   rw [e7]
   repeat ((try conv => whnf); first | (refine i_lt (by omega) ?_) | (refine Exists.intro _ (And.intro hg ?_)) | (refine ccA ([]) (c2) ?_) | (refine Exists.intro _ (And.intro hg3 ?_)) | (refine Exists.intro _ (And.intro e4.symm ?_)) | (refine And.intro (by kernel_rfl) ?_) | (refine stpQ ?_))
   refine ⟨j + 1, by omega, by omega, ?_⟩
   rw [← hst]
   (refine z02 (by rfl) ?_ ?_) <;> (repeat' (first | (exact eqA) | (refine shE ?_) | (refine And.intro ?_ ?_)))
   rw [← zgo]; rfl
  ·have hje : j = 8 := by omega
   rw [hje]
   repeat ((try conv => whnf); first | (refine And.intro (by kernel_rfl) ?_) | (refine stpQ ?_))
   (refine z02 (by rfl) ?_ ?_) <;> (repeat' (first | (exact eqA) | (refine shE ?_) | (refine And.intro ?_ ?_)))
 ·repeat ((try conv => whnf); first | (refine stpQ ?_))
  (refine z00 (by rfl) ?_ ?_ (by rfl)) <;> (repeat' (first | (exact eqA) | (refine shE ?_) | (refine And.intro ?_ ?_)))
theorem z4Y (l : List Lf) (h : leavesOk l = true) : CT Tryz.prog 142 [] [.sl 2 (lvE l)] (.tup [.str (z0T l), .bool true]) [] := by
 have hlen := z0Q l
 have h24 := (z0K h).1
 have c0 := z1L l (by omega) (by
  intro i
  have h1 := z5o h i
  obtain ⟨_, h2, _⟩ := z0K h
  unfold lfAt at h1 ⊢
  rcases Nat.lt_or_ge i l.length with hk | hk
  ·simp only [List.getD, List.getElem?_eq_getElem hk, Option.getD_some] at h1 ⊢
   have := z1J (h2 _ (List.getElem_mem hk)).2
   omega
  ·simp [List.getD, List.getElem?_eq_none hk])
 rw [h] at c0
 have c1 := z43 1 [] (by omega) z6P
 have c2 := z43 2 (z2u l) (by omega) (z3P h)
 refine z01 z0m 1 rfl Tryz.func142 rfl rfl rfl ?_
 by_cases h0 : l = []
 ·subst h0
  unfold z0T
  rw [if_pos rfl]
  repeat ((try conv => whnf); first | (refine ccA ([]) (c0) ?_) | (refine ccA ([]) (c1) ?_) | (refine Exists.intro 0 (And.intro rfl ?_)) | (refine stpQ ?_))
  (refine z00 (by rfl) ?_ ?_ (by rfl)) <;> (repeat' (first | (exact eqA) | (refine shE ?_) | (refine And.intro ?_ ?_)))
 ·have hpos : 0 < l.length := List.length_pos_iff.2 h0
  unfold z0T
  rw [if_neg h0]
  repeat ((try conv => whnf); first | (refine ccA ([]) (c0) ?_) | (refine Exists.intro l.length (And.intro hlen ?_)) | (refine stpQ ?_))
  refine z0h 0 ⟨[(4, .ref 1)], [(1, some (.row 1 (strE (z2u l))))], 2⟩ Nat (fun k => ⟨[(0, .sl 2 (lvE l)), (4, .ref 1), (5, .int .i64 (k : Int))], [(1, some (.row 1 (strE (z2u (l.take k)))))], 2⟩) (fun k => k ≤ l.length) (fun k => l.length - k) 0 (by omega) ?_ ?_ ?_
  ·(refine z02 (by rfl) ?_ ?_) <;> (repeat' (first | (exact eqA) | (refine shE ?_) | (refine And.intro ?_ ?_))) <;> first | rfl | decide
  ·intro k hk
   by_cases hlt : k < l.length
   ·have hnx := z6Q hlt
    have hw := z5n (l.take k)
    have hkl : (l.take k).length = k := by rw [List.length_take]; omega
    generalize z2u (l.take k) = o at hnx hw ⊢
    have hol := z0c o
    repeat ((try conv => whnf); first | (refine Exists.intro l.length (And.intro hlen ?_)) | (refine i_at (z1K hlt) ?_) | (refine And.intro (by simp [z0c]; omega) ?_) | (refine And.intro (by kernel_rfl) ?_) | (refine stpQ ?_))
    refine ⟨k + 1, by omega, by omega, ?_⟩
    rw [hnx]
    (refine z02 (by rfl) ?_ ?_) <;> (repeat' (first | (exact eqA) | (refine shE ?_) | (refine And.intro ?_ ?_)))
    rw [z0R]; rfl
   ·have hke : k = l.length := by omega
    rw [hke, List.take_length]
    repeat ((try conv => whnf); first | (refine Exists.intro l.length (And.intro hlen ?_)) | (refine stpQ ?_))
    (refine z02 (by rfl) ?_ ?_) <;> (repeat' (first | (exact eqA) | (refine shE ?_) | (refine And.intro ?_ ?_)))
  ·repeat ((try conv => whnf); first | (refine ccA ([]) (c2) ?_) | (refine stpQ ?_))
   (refine z00 (by rfl) ?_ ?_ (by rfl)) <;> (repeat' (first | (exact eqA) | (refine shE ?_) | (refine And.intro ?_ ?_)))
theorem z90 (l : List Lf) (w : Nat) (h : leavesOk l = true) (hw : 1 ≤ w ∧ w ≤ 32) : CT Tryz.prog 172 [] [.sl 2 (lvE l), .int .i64 (w : Int)] (.str (cutB (z0T l) w)) [] := by
 have c1 := z4Y l h
 have hl := z2T h
 have c2 := z6V (z0T l) w (by omega) hw
 generalize z0T l = t at c1 c2 hl ⊢
 refine z01 z0m 1 rfl Tryz.func172 rfl rfl rfl ?_
 repeat ((try conv => whnf); first | (refine ccA ([]) (c1) ?_) | (refine ccA ([]) (c2) ?_) | (refine stpQ ?_))
 (refine z00 (by rfl) ?_ ?_ (by rfl)) <;> (repeat' (first | (exact eqA) | (refine shE ?_) | (refine And.intro ?_ ?_)))
def spE (l : List Lf) : List (List T) := l.map fun x => [.str x.1, .str x.2, .int .i64 (ixB x.1 : Int)]
theorem z91 (l : List Lf) : (spE l).length = l.length := by simp [spE]
theorem zfc (a b : List Lf) : spE (a ++ b) = spE a ++ spE b := by simp [spE]
theorem zha {l : List Lf} {k : Nat} (h : k < l.length) : (spE l)[k]? = some [.str (lfAt l k).1, .str (lfAt l k).2, .int .i64 (ixB (lfAt l k).1 : Int)] := by
 rw [zct h]; simp [spE, List.getElem?_eq_getElem h]
theorem zfd (l : List Lf) (h : leavesOk l = true) : CT Tryz.prog 156 [] [.sl 2 (lvE l)] (.ref 1) [.row 3 (spE l)] := by
 have hlen := z0Q l
 have h24 := (z0K h).1
 refine z01 zcB 1 rfl Tryz.func156 rfl rfl rfl ?_
 repeat ((try conv => whnf); first | (refine stpQ ?_))
 refine z0h 0 ⟨[(3, .ref 1)], [(1, some (.row 3 (spE l)))], 2⟩ Nat (fun k => ⟨[(0, .sl 2 (lvE l)), (3, .ref 1), (4, .int .i64 (k : Int))], [(1, some (.row 3 (spE (l.take k))))], 2⟩) (fun k => k ≤ l.length) (fun k => l.length - k) 0 (by omega) ?_ ?_ ?_
 ·(refine z02 (by rfl) ?_ ?_) <;> (repeat' (first | (exact eqA) | (refine shE ?_) | (refine And.intro ?_ ?_))) <;> first | rfl | decide
 ·intro k hk
  by_cases hlt : k < l.length
  ·have hnx : spE (l.take (k + 1)) = spE (l.take k) ++ spE [lfAt l k] := by rw [z2b l k hlt, zfc]
   have hol := z91 (l.take k)
   have hkl : (l.take k).length = k := by rw [List.length_take]; omega
   have c1 := z25 (lfAt l k).1 (z5o h k)
   generalize spE (l.take k) = o at hnx hol ⊢
   repeat ((try conv => whnf); first | (refine Exists.intro l.length (And.intro hlen ?_)) | (refine i_at (z1K hlt) ?_) | (refine ccA ([]) (c1) ?_) | (refine And.intro (by rw [List.length_append]; simp; omega) ?_) | (refine And.intro (by kernel_rfl) ?_) | (refine stpQ ?_))
   refine ⟨k + 1, by omega, by omega, ?_⟩
   rw [hnx]
   (refine z02 (by rfl) ?_ ?_) <;> (repeat' (first | (exact eqA) | (refine shE ?_) | (refine And.intro ?_ ?_)))
   rfl
  ·have hke : k = l.length := by omega
   rw [hke, List.take_length]
   repeat ((try conv => whnf); first | (refine Exists.intro l.length (And.intro hlen ?_)) | (refine stpQ ?_))
   (refine z02 (by rfl) ?_ ?_) <;> (repeat' (first | (exact eqA) | (refine shE ?_) | (refine And.intro ?_ ?_)))
 ·repeat ((try conv => whnf); first | (refine stpQ ?_))
  (refine z00 (by rfl) ?_ ?_ (by rfl)) <;> (repeat' (first | (exact eqA) | (refine shE ?_) | (refine And.intro ?_ ?_)))
end Go.Proofs.YtgmbkbggnlponaaGreatDoor
namespace Go.Proofs.YtgmbkbggnlponaaGreatDoor
set_option maxRecDepth 100000
set_option maxHeartbeats 8000000
set_option linter.unusedVariables false
set_option linter.unusedSimpArgs false
set_option linter.unusedSectionVars false
open Go.RowKit Pl
attribute [local irreducible] z0t z0u z0y AnsP LeP
theorem z6W {d : Nat} (h : d ≤ 8) : IntKind.u64.wrap ((d : Nat) : Int) = ((d : Nat) : Int) := by rw [IntKind.wrap_u64]; omega
theorem z92 (w : Nat) (hw : 1 ≤ w ∧ w ≤ 32) : ∀ (d p : Nat) (l : List Lf), leavesOk l = true → d ≤ 8 → p < 2 ^ (8 - d) → CT Tryz.prog 158 [] [.sl 3 (spE l), .int .i64 (8 - (d : Int)), .int .i64 (p : Int), .int .i64 (w : Int), .sl 1 (strE (empJ w 8))] (.str (z0w l w d p)) []
 | d, p, l, h, hd, hp => by
   have hlen := z91 l
   have h24 := (z0K h).1
   have e1 : IntKind.i64.wrap (8 - (8 - (d : Int))) = ((d : Nat) : Int) := by rw [wrap_i64 (by omega) (by omega)]; omega
   have e1u := z6W hd
   have hokA := atP_ok (d := d) (p := p) h
   have hlA := z91 (atP l d p)
   have hA24 := (z0K hokA).1
   have hem := zcE w 8
   have heml := z0c (empJ w 8)
   refine z01 zcB 1 rfl Tryz.func158 rfl rfl rfl ?_
   repeat ((try conv => whnf); first | (refine stpQ ?_))
   refine z0h 0 ⟨[(1, .int .i64 (8 - (d : Int))), (2, .int .i64 (p : Int)), (3, .int .i64 (w : Int)), (4, .sl 1 (strE (empJ w 8))), (11, .ref 1)], [(1, some (.row 3 (spE (atP l d p))))], 2⟩ Nat (fun k => ⟨[(0, .sl 3 (spE l)), (1, .int .i64 (8 - (d : Int))), (2, .int .i64 (p : Int)), (3, .int .i64 (w : Int)), (4, .sl 1 (strE (empJ w 8))), (11, .ref 1), (12, .int .i64 (k : Int))], [(1, some (.row 3 (spE (atP (l.take k) d p))))], 2⟩) (fun k => k ≤ l.length) (fun k => l.length - k) 0 (by omega) ?_ ?_ ?_
   ·(refine z02 (by rfl) ?_ ?_) <;> (repeat' (first | (exact eqA) | (refine shE ?_) | (refine And.intro ?_ ?_))) <;> first | rfl | decide
   ·intro k hk
    by_cases hlt : k < l.length
    ·have hnx := zgm (d := d) (p := p) hlt
     have hwk : (atP (l.take k) d p).length ≤ k := Nat.le_trans (List.length_filter_le _ _) (by rw [List.length_take]; omega)
     have e2 := z6R (ixB (lfAt l k).1) d
     generalize atP (l.take k) d p = o at hnx hwk ⊢
     have hol := z91 o
     repeat' (first | ((try conv => whnf); first | (refine Exists.intro l.length (And.intro hlen ?_)) | (refine i_at (zha hlt) ?_) | (refine Exists.intro _ (And.intro e1.symm ?_)) | (refine Exists.intro _ (And.intro e1u.symm ?_)) | (refine And.intro (show _ ≤ (64 : Int) from by omega) ?_) | (refine Exists.intro _ (And.intro e2.symm ?_)) | (refine And.intro (by rw [List.length_append]; simp; omega) ?_) | (refine And.intro (by kernel_rfl) ?_) | (refine stpQ ?_)) | ((try conv => whnf); first | (refine cb_d (fun h => ?_) (fun h => ?_)) | (refine cb_n (fun h => ?_) (fun h => ?_)) | (refine cb (fun h => ?_) (fun h => ?_))))
     all_goals first
      | (exfalso; omega)
      | (rename_i hc
         have hc2 : ixB (lfAt l k).1 / 2 ^ d = p := by omega
         refine ⟨k + 1, by omega, by omega, ?_⟩
         rw [hnx, if_pos hc2]
         (refine z02 (by rfl) ?_ ?_) <;> (repeat' (first | (exact eqA) | (refine shE ?_) | (refine And.intro ?_ ?_)))
         rw [zfc]; rfl)
      | (rename_i hc
         have hc2 : ¬ (ixB (lfAt l k).1 / 2 ^ d = p) := by omega
         refine ⟨k + 1, by omega, by omega, ?_⟩
         rw [hnx, if_neg hc2, List.append_nil]
         (refine z02 (by rfl) ?_ ?_) <;> (repeat' (first | (exact eqA) | (refine shE ?_) | (refine And.intro ?_ ?_))))
    ·have hke : k = l.length := by omega
     rw [hke, List.take_length]
     repeat ((try conv => whnf); first | (refine Exists.intro l.length (And.intro hlen ?_)) | (refine stpQ ?_))
     (refine z02 (by rfl) ?_ ?_) <;> (repeat' (first | (exact eqA) | (refine shE ?_) | (refine And.intro ?_ ?_)))
   ·by_cases hE : atP l d p = []
    ·have hlt : 8 - d < (empJ w 8).length := by omega
     have he := zfb (w := w) (j := 8) (i := 8 - d) (by omega) (by omega)
     have hg := z0n hlt
     rw [he, show 8 - (8 - d) = d by omega] at hg
     have e3 : 8 - (d : Int) = ((8 - d : Nat) : Int) := by omega
     rw [zbo d hE, hE, e3]
     generalize empJ w 8 = em at heml hlt hg hem ⊢
     repeat ((try conv => whnf); first | (refine Exists.intro 0 (And.intro rfl ?_)) | (refine i_at hg ?_) | (refine stpQ ?_))
     (refine z00 (by rfl) ?_ ?_ (by rfl)) <;> (repeat' (first | (exact eqA) | (refine shE ?_) | (refine And.intro ?_ ?_)))
    ·have hpos : 0 < (atP l d p).length := List.length_pos_iff.2 hE
     cases d with
     | zero =>
       have c1 := z90 (atP l 0 p) w hokA hw
       rw [show z0w l w 0 p = cutB (z0T (atP l 0 p)) w from rfl]
       generalize cutB (z0T (atP l 0 p)) w = res at c1 ⊢
       generalize atP l 0 p = o at c1 hpos hlA hA24 ⊢
       have hlo := z0Q o
       repeat ((try conv => whnf); first | (refine Exists.intro o.length (And.intro hlA ?_)) | (refine stpQ ?_))
       refine z0h 2 ⟨[(3, .int .i64 (w : Int)), (13, .ref 1)], [(1, some (.row 2 (lvE o)))], 2⟩ Nat (fun k => ⟨[(3, .int .i64 (w : Int)), (11, .ref 1), (13, .ref 2), (14, .int .i64 (k : Int))], [(1, some (.row 3 (spE o))), (2, some (.row 2 (lvE (o.take k))))], 3⟩) (fun k => k ≤ o.length) (fun k => o.length - k) 0 (by omega) ?_ ?_ ?_
       ·(refine z02 (by rfl) ?_ ?_) <;> (repeat' (first | (exact eqA) | (refine shE ?_) | (refine And.intro ?_ ?_))) <;> first | rfl | decide
       ·intro k hk
        by_cases hlt : k < o.length
        ·have hnx : lvE (o.take (k + 1)) = lvE (o.take k) ++ lvE [lfAt o k] := by rw [z2b o k hlt, z5k]
         have hkl : (o.take k).length = k := by rw [List.length_take]; omega
         have hol := z0Q (o.take k)
         generalize lvE (o.take k) = q at hnx hol ⊢
         repeat ((try conv => whnf); first | (refine Exists.intro o.length (And.intro hlA ?_)) | (refine i_lt (by omega) ?_) | (refine Exists.intro _ (And.intro (zha hlt) ?_)) | (refine And.intro (by rw [List.length_append]; simp; omega) ?_) | (refine stpQ ?_))
         refine ⟨k + 1, by omega, by omega, ?_⟩
         rw [hnx]
         (refine z02 (by rfl) ?_ ?_) <;> (repeat' (first | (exact eqA) | (refine shE ?_) | (refine And.intro ?_ ?_)))
         rfl
        ·have hke : k = o.length := by omega
         rw [hke, List.take_length]
         repeat ((try conv => whnf); first | (refine Exists.intro o.length (And.intro hlA ?_)) | (refine stpQ ?_))
         (refine z02 (by rfl) ?_ ?_) <;> (repeat' (first | (exact eqA) | (refine shE ?_) | (refine And.intro ?_ ?_)))
       ·repeat ((try conv => whnf); first | (refine ccA ([]) (c1) ?_) | (refine stpQ ?_))
        (refine z00 (by rfl) ?_ ?_ (by rfl)) <;> (repeat' (first | (exact eqA) | (refine shE ?_) | (refine And.intro ?_ ?_)))
     | succ d =>
       have hpw : 2 ^ (8 - d) = 2 * 2 ^ (8 - (d + 1)) := by
        rw [show 8 - d = (8 - (d + 1)) + 1 by omega, Nat.pow_succ]; omega
       have hsm : 2 ^ (8 - d) ≤ 2 ^ 8 := Nat.pow_le_pow_right (by decide) (by omega)
       have i1 := z92 w hw d (2 * p) (atP l (d + 1) p) hokA (by omega) (by omega)
       have i2 := z92 w hw d (2 * p + 1) (atP l (d + 1) p) hokA (by omega) (by omega)
       rw [z6L l w d p (.inl rfl)] at i1
       rw [z6L l w d p (.inr rfl)] at i2
       have n1 := z4P (l := l) hw.2 d (2 * p)
       have n2 := z4P (l := l) hw.2 d (2 * p + 1)
       have c1 := z0U 3 [z0w l w d (2 * p), z0w l w d (2 * p + 1)] w (by omega) (z1U (by omega) (by omega)) hw
       rw [show z0w l w (d + 1) p = z14 3 [z0w l w d (2 * p), z0w l w d (2 * p + 1)] w from by rw [z0w, if_neg hE]]
       have e3 : IntKind.i64.wrap (8 - ((d + 1 : Nat) : Int) + 1) = 8 - (d : Int) := by rw [wrap_i64 (by omega) (by omega)]; omega
       generalize atP l (d + 1) p = o at hpos hlA i1 i2 ⊢
       generalize z0w l w d (2 * p) = x1 at i1 c1 n1 ⊢
       generalize z0w l w d (2 * p + 1) = x2 at i2 c1 n2 ⊢
       repeat ((try conv => whnf); first | (refine Exists.intro o.length (And.intro hlA ?_)) | (refine Exists.intro _ (And.intro e3.symm ?_)) | (refine z81 (by omega) ?_) | (refine ccA ([]) (i1) ?_) | (refine ccA ([]) (i2) ?_) | (refine ccA ([]) (c1) ?_) | (refine And.intro (by kernel_rfl) ?_) | (refine stpQ ?_))
       (refine z00 (by rfl) ?_ ?_ (by rfl)) <;> (repeat' (first | (exact eqA) | (refine shE ?_) | (refine And.intro ?_ ?_)))
theorem zfe (l : List Lf) (w : Nat) (h : leavesOk l = true) (hw : 1 ≤ w ∧ w ≤ 32) : CT Tryz.prog 112 [] [.sl 2 (lvE l), .int .i64 (w : Int)] (.str (z0w l w 8 0)) [] := by
 have h24 := (z0K h).1
 have c1 : CT Tryz.prog 154 [] [.sl 2 (lvE l), .int .i64 0, .int .i64 0, .int .i64 (w : Int)] (.str (z0w l w 8 0)) [] := by
  have c0 := z1L l (by omega) (by
   intro i
   have h1 := z5o h i
   obtain ⟨_, h2, _⟩ := z0K h
   unfold lfAt at h1 ⊢
   rcases Nat.lt_or_ge i l.length with hk | hk
   ·simp only [List.getD, List.getElem?_eq_getElem hk, Option.getD_some] at h1 ⊢
    have := z1J (h2 _ (List.getElem_mem hk)).2
    omega
   ·simp [List.getD, List.getElem?_eq_none hk])
  rw [h] at c0
  have c2 : CT Tryz.prog 30 [] [.int .i64 0, .int .i64 0, .int .i64 8] (.bool true) [] := z10 0 0 8
  have c3 : CT Tryz.prog 30 [] [.int .i64 (w : Int), .int .i64 1, .int .i64 32] (.bool true) [] := by
   have := z10 (w : Int) 1 32
   rwa [z0r.2 (by omega)] at this
  have c4 := zfd l h
  have c5 := zab w hw
  have c6 : CT Tryz.prog 158 [] [.sl 3 (spE l), .int .i64 0, .int .i64 0, .int .i64 (w : Int), .sl 1 (strE (empJ w 8))] (.str (z0w l w 8 0)) [] := z92 w hw 8 0 l h (by omega) (by decide)
  generalize z0w l w 8 0 = res at c6 ⊢
  generalize empJ w 8 = em at c5 c6
  refine z01 zcB 1 rfl Tryz.func154 rfl rfl rfl ?_
  repeat ((try conv => whnf); first | (refine ccA ([]) (c0) ?_) | (refine ccA ([]) (c2) ?_) | (refine ccA ([]) (c3) ?_) | (refine ccA ([]) (c4) ?_) | (refine ccA ([]) (c5) ?_) | (refine ccA ([]) (c6) ?_) | (refine And.intro (by kernel_rfl) ?_) | (refine stpQ ?_))
  (refine z00 (by rfl) ?_ ?_ (by rfl)) <;> (repeat' (first | (exact eqA) | (refine shE ?_) | (refine And.intro ?_ ?_)))
 generalize z0w l w 8 0 = res at c1 ⊢
 refine z01 z0m 1 rfl Tryz.func112 rfl rfl rfl ?_
 repeat ((try conv => whnf); first | (refine ccA ([]) (c1) ?_) | (refine stpQ ?_))
 (refine z00 (by rfl) ?_ ?_ (by rfl)) <;> (repeat' (first | (exact eqA) | (refine shE ?_) | (refine And.intro ?_ ?_)))
theorem z6X (l m : List Bs) (hl : (l.length : Int) ≤ 100000000) (hm : (m.length : Int) ≤ 100000000) : CT Tryz.prog 54 [] [.sl 1 (strE l), .sl 1 (strE m)] (.bool (decide (l = m))) [] := by
 have hll := z0c l
 have hlm := z0c m
 refine z01 z0m 1 rfl Tryz.func54 rfl rfl rfl ?_
 by_cases hn : l.length = m.length
 ·repeat ((try conv => whnf); first | (refine Exists.intro l.length (And.intro hll ?_)) | (refine Exists.intro m.length (And.intro hlm ?_)) | (refine stpQ ?_))
  refine z0S Nat (fun k => ⟨[(0, .sl 1 (strE l)), (1, .sl 1 (strE m)), (5, .int .i64 (k : Int))], [], 2⟩) (fun k => k ≤ l.length ∧ l.take k = m.take k) (fun k => l.length - k) 0 ⟨by omega, rfl⟩ ?_ ?_
  ·(refine z02 (by rfl) ?_ ?_) <;> repeat' (first | (exact eqA) | (refine shE ?_) | (refine And.intro ?_ ?_))
  ·intro k hkk
   have hk := hkk.1
   have hp := hkk.2
   by_cases hlt : k < l.length
   ·have hlt2 : k < m.length := by omega
    by_cases hq : pAt l k = pAt m k
    ·have hnx : l.take (k + 1) = m.take (k + 1) := by
      rw [List.take_add_one, List.take_add_one, hp, List.getElem?_eq_getElem hlt, List.getElem?_eq_getElem hlt2]
      simp only [pAt, List.getD, List.getElem?_eq_getElem hlt, List.getElem?_eq_getElem hlt2, Option.getD_some] at hq
      rw [hq]
     repeat ((try conv => whnf); first | (refine Exists.intro l.length (And.intro hll ?_)) | (refine i_at (z0n hlt) ?_) | (refine i_at (z0n hlt2) ?_) | (refine z1C hq ?_) | (refine And.intro (by kernel_rfl) ?_) | (refine stpQ ?_))
     refine ⟨k + 1, ⟨by omega, hnx⟩, by omega, ?_⟩
     (refine z02 (by rfl) ?_ ?_) <;> repeat' (first | (exact eqA) | (refine shE ?_) | (refine And.intro ?_ ?_))
    ·have hne : ¬ l = m := fun h0 => hq (by rw [h0])
     rw [decide_eq_false hne]
     repeat ((try conv => whnf); first | (refine Exists.intro l.length (And.intro hll ?_)) | (refine i_at (z0n hlt) ?_) | (refine i_at (z0n hlt2) ?_) | (refine z30 hq ?_) | (refine And.intro (by kernel_rfl) ?_) | (refine stpQ ?_))
     (refine z00 (by rfl) ?_ ?_ (by rfl)) <;> repeat' (first | (exact eqA) | (refine shE ?_) | (refine And.intro ?_ ?_))
   ·have he : l = m := by
     rw [List.take_of_length_le (by omega), List.take_of_length_le (by omega)] at hp; exact hp
    rw [decide_eq_true he]
    repeat ((try conv => whnf); first | (refine Exists.intro l.length (And.intro hll ?_)) | (refine stpQ ?_))
    (refine z00 (by rfl) ?_ ?_ (by rfl)) <;> repeat' (first | (exact eqA) | (refine shE ?_) | (refine And.intro ?_ ?_))
 ·have hne : ¬ l = m := fun h0 => hn (by rw [h0])
  rw [decide_eq_false hne]
  repeat ((try conv => whnf); first | (refine Exists.intro l.length (And.intro hll ?_)) | (refine Exists.intro m.length (And.intro hlm ?_)) | (refine stpQ ?_))
  (refine z00 (by rfl) ?_ ?_ (by rfl)) <;> repeat' (first | (exact eqA) | (refine shE ?_) | (refine And.intro ?_ ?_))
theorem zbz (l m : List Lf) (s u : List Bs) (hl : (l.length : Int) ≤ 1000000) (hm : (m.length : Int) ≤ 1000000) (hs : (s.length : Int) ≤ 1000000) (hu : (u.length : Int) ≤ 1000000) :
 CT Tryz.prog 53 [] [.agg [.sl 2 (lvE l), .sl 1 (strE s)], .agg [.sl 2 (lvE m), .sl 1 (strE u)]] (.bool (decide (l = m) && decide (s = u))) [] := by
 have c1 := z9Y l m (by omega) (by omega)
 have c2 := z6X s u (by omega) (by omega)
 generalize decide (l = m) = b1 at c1 ⊢
 generalize decide (s = u) = b2 at c2 ⊢
 refine z01 z0m 1 rfl Tryz.func53 rfl rfl rfl ?_
 cases b1
 ·repeat ((try conv => whnf); first | (refine ccA ([]) (c1) ?_) | (refine And.intro (by kernel_rfl) ?_) | (refine stpQ ?_))
  (refine z00 (by rfl) ?_ ?_ (by rfl)) <;> (repeat' (first | (exact eqA) | (refine shE ?_) | (refine And.intro ?_ ?_))) <;> rfl
 ·repeat ((try conv => whnf); first | (refine ccA ([]) (c1) ?_) | (refine ccA ([]) (c2) ?_) | (refine And.intro (by kernel_rfl) ?_) | (refine stpQ ?_))
  (refine z00 (by rfl) ?_ ?_ (by rfl)) <;> (repeat' (first | (exact eqA) | (refine shE ?_) | (refine And.intro ?_ ?_))) <;> (rw [Bool.true_and])
end Go.Proofs.YtgmbkbggnlponaaGreatDoor
namespace Go.Proofs.YtgmbkbggnlponaaGreatDoor
set_option maxRecDepth 100000
set_option maxHeartbeats 4000000
set_option linter.unusedVariables false
set_option linter.unusedSimpArgs false
set_option linter.unusedSectionVars false
open Go.RowKit Pl
attribute [local irreducible] z0t z0u z0y AnsP LeP
structure PfSz (nm : Bs) (l : List Lf) (s : List Bs) : Prop where
 nm : nm.length ≤ 20
 len : l.length ≤ 30
 lv : ∀ x ∈ l, x.1.length ≤ 20 ∧ x.2.length ≤ 20
 sl : s.length ≤ 30
 sw : ∀ x ∈ s, x.length ≤ 40
theorem PfSz.at {nm : Bs} {l : List Lf} {s : List Bs} (h : PfSz nm l s) (k : Nat) : (lfAt l k).1.length ≤ 20 ∧ (lfAt l k).2.length ≤ 20 := by
 unfold lfAt
 rcases Nat.lt_or_ge k l.length with hk | hk
 ·simp only [List.getD, List.getElem?_eq_getElem hk, Option.getD_some]
  exact h.lv _ (List.getElem_mem hk)
 ·simp [List.getD, List.getElem?_eq_none hk]
theorem PfSz.fit {nm : Bs} {l : List Lf} {s : List Bs} (h : PfSz nm l s) : Fit l := fun i => by have := h.at i; omega
theorem PfSz.nms {nm : Bs} {l : List Lf} {s : List Bs} (h : PfSz nm l s) (k : Nat) : ((lfAt l k).1.length : Int) ≤ 100000000 := by have := h.at k; omega
def z84 (nm : Bs) (l : List Lf) (s : List Bs) (w : Int) : List Bs := if z1E nm l s w = true then z1e nm l s w.toNat else []
def zbA (nm : Bs) (l : List Lf) (s : List Bs) (w : Int) : Bs := if z1E nm l s w = true then z5N nm l s w.toNat else []
theorem zgp (nm : Bs) (l : List Lf) (s : List Bs) (w : Int) (h : PfSz nm l s) :
 CT Tryz.prog 70 [] [.str nm, .agg [.sl 2 (lvE l), .sl 1 (strE s)], .int .i64 w] (.ref 1) [.row 1 (strE (z84 nm l s w))] := by
 unfold z84
 by_cases hg : z1E nm l s w = true
 ·rw [if_pos hg]
  obtain ⟨n, rfl⟩ : ∃ n : Nat, w = n := ⟨w.toNat, by have := (z3Q hg).2.2.2.1; omega⟩
  exact z5G nm l s n hg
 ·rw [if_neg hg]
  have a1 := h.nm
  have a2 := h.len
  have a3 := h.sl
  have c1 := z6S nm l s w (by omega) (by omega) h.fit h.nms (by omega)
  rw [show z1E nm l s w = false by simpa using hg] at c1
  refine z01 z0m 1 rfl Tryz.func70 rfl rfl rfl ?_
  repeat ((try conv => whnf); first | (refine ccA ([]) (c1) ?_) | (refine stpQ ?_))
  (refine z00 (by rfl) ?_ ?_ (by rfl)) <;> (repeat' (first | (exact eqA) | (refine shE ?_) | (refine And.intro ?_ ?_))) <;> first | rfl | decide
theorem zi1 (nm : Bs) (l : List Lf) (s : List Bs) (w : Int) (h : PfSz nm l s) :
 CT Tryz.prog 20 [] [.str nm, .agg [.sl 2 (lvE l), .sl 1 (strE s)], .int .i64 w] (.str (zbA nm l s w)) [] := by
 by_cases hg : z1E nm l s w = true
 ·unfold zbA
  rw [if_pos hg]
  obtain ⟨n, rfl⟩ : ∃ n : Nat, w = n := ⟨w.toNat, by have := (z3Q hg).2.2.2.1; omega⟩
  exact zby nm l s n hg
 ·have c1 := zgp nm l s w h
  unfold zbA
  unfold z84 at c1
  rw [if_neg hg] at c1 ⊢
  refine z01 z0m 1 rfl Tryz.func20 rfl rfl rfl ?_
  repeat ((try conv => whnf); first | (refine z29 ([]) (c1) (by ((repeat' (first | (exact trivial) | (exact rfl) | (refine And.intro ?_ ?_))); first | done | fail)) (by ((repeat' (first | (exact trivial) | (exact rfl) | (refine And.intro ?_ ?_))); first | done | fail)) (by decide) (by rfl) (by first | exact .inl rfl | (refine .inr ⟨by simp [own2, own1, own0], fun e he => ?_⟩; simp only [List.mem_cons, List.not_mem_nil, or_false] at he <;> first | exact he.elim | (subst he; (first | exact z0C _ | exact z0q _)) | (rcases he with rfl | rfl <;> (first | exact z0C _ | exact z0q _)))) ?_) | (refine Exists.intro 0 (And.intro rfl ?_)) | (refine stpQ ?_))
  (refine z00 (by rfl) ?_ ?_ (by rfl)) <;> (repeat' (first | (exact eqA) | (refine shE ?_) | (refine And.intro ?_ ?_))) <;> rfl
def ixTo (nm : Bs) (l : List Lf) (k : Nat) : Prop := ∀ j, j < k → ixB (lfAt l j).1 = ixB nm
theorem zdx {nm : Bs} {l : List Lf} (h : ixTo nm l l.length) : (z0v l (ixB nm : Int)).length = l.length := by
 unfold z0v
 rw [List.filter_eq_self.2 fun x hx => by
  obtain ⟨k, hk, rfl⟩ := List.getElem_of_mem hx
  have := h k hk
  rw [z6C hk] at this
  simp [this]]
theorem zdy {nm : Bs} {l : List Lf} {k : Nat} (hk : k < l.length) (h : ¬ ixB (lfAt l k).1 = ixB nm) : ¬ (z0v l (ixB nm : Int)).length = l.length := by
 intro hl
 unfold z0v at hl
 have h1 := List.length_filter_eq_length_iff.1 hl l[k] (List.getElem_mem hk)
 rw [z6C hk] at h
 simp at h1
 omega
theorem z5p (nm : Bs) (l : List Lf) (s : List Bs) (w : Int) (h : PfSz nm l s) :
 CT Tryz.prog 76 [] [.str nm, .agg [.sl 2 (lvE l), .sl 1 (strE s)], .int .i64 w] (.bool (z1E nm l s w)) [] := by
 have a1 := h.nm
 have a2 := h.len
 have a3 := h.sl
 have hlen := z0c s
 have hll := z0Q l
 have c1 := z6E nm (by omega)
 have c2 := z1L l (by omega) h.fit
 have c3 := z83 s w (by omega)
 have c5 := z25 nm (by omega)
 have e : z1E nm l s w = (z1d nm && (leavesOk l && (decide (s.length ≤ 8) && (wideB s w && decide ((z0v l (ixB nm : Int)).length = l.length))))) := by
  unfold z1E wideB
  generalize decide ((z0v l (ixB nm : Int)).length = l.length) = b6
  generalize (s.all fun x => decide ((x.length : Int) = w)) = b5
  generalize inB w 1 32 = b4
  generalize decide (s.length ≤ 8) = b3
  generalize leavesOk l = b2
  generalize z1d nm = b1
  cases b1 <;> cases b2 <;> cases b3 <;> cases b4 <;> cases b5 <;> rfl
 rw [e]
 clear e
 obtain ⟨iy, ix, b6, hiy, hix0, hb6, hb1, hb2⟩ : ∃ (iy : Nat → Nat) (ix : Nat) (b6 : Bool), (∀ j, ixB (lfAt l j).1 = iy j) ∧ ixB nm = ix ∧ decide ((z0v l (ixB nm : Int)).length = l.length) = b6 ∧ ((∀ j, j < l.length → iy j = ix) → b6 = true) ∧ (∀ k, k < l.length → ¬ iy k = ix → b6 = false) :=
  ⟨_, _, _, fun _ => rfl, rfl, rfl, fun hp => decide_eq_true (zdx hp), fun k hk hq => decide_eq_false (zdy hk hq)⟩
 have hix : ∀ k, k < l.length → CT Tryz.prog 29 [] [.str (lfAt l k).1] (.int .i64 (iy k : Int)) [] := fun k _ => hiy k ▸ z25 (lfAt l k).1 (h.nms k)
 rw [hb6]
 rw [hix0] at c5
 clear hiy hix0 hb6
 generalize wideB s w = b3 at c3 ⊢
 generalize leavesOk l = b2 at c2 ⊢
 generalize z1d nm = b1 at c1 ⊢
 refine z01 z0m 1 rfl Tryz.func76 rfl rfl rfl ?_
 cases b1
 ·repeat ((try conv => whnf); first | (refine ccA ([]) (c1) ?_) | (refine stpQ ?_))
  (refine z00 (by rfl) ?_ ?_ (by rfl)) <;> (repeat' (first | (exact eqA) | (refine shE ?_) | (refine And.intro ?_ ?_))) <;> rfl
 cases b2
 ·repeat ((try conv => whnf); first | (refine ccA ([]) (c1) ?_) | (refine ccA ([]) (c2) ?_) | (refine stpQ ?_))
  (refine z00 (by rfl) ?_ ?_ (by rfl)) <;> (repeat' (first | (exact eqA) | (refine shE ?_) | (refine And.intro ?_ ?_))) <;> rfl
 by_cases h8 : s.length ≤ 8
 ·rw [decide_eq_true h8]
  cases b3
  ·repeat ((try conv => whnf); first | (refine ccA ([]) (c1) ?_) | (refine ccA ([]) (c2) ?_) | (refine ccA ([]) (c3) ?_) | (refine Exists.intro s.length (And.intro hlen ?_)) | (refine stpQ ?_))
   (refine z00 (by rfl) ?_ ?_ (by rfl)) <;> (repeat' (first | (exact eqA) | (refine shE ?_) | (refine And.intro ?_ ?_))) <;> rfl
  repeat ((try conv => whnf); first | (refine ccA ([]) (c1) ?_) | (refine ccA ([]) (c2) ?_) | (refine ccA ([]) (c3) ?_) | (refine ccA ([]) (c5) ?_) | (refine Exists.intro s.length (And.intro hlen ?_)) | (refine stpQ ?_))
  refine z0S Nat (fun k => ⟨[(4, .ptr 1 0 0), (7, .int .i64 (ix : Int)), (8, .int .i64 (k : Int))], [(1, some (.box [.sl 2 (lvE l), .sl 1 (strE s)]))], 2⟩) (fun k => k ≤ l.length ∧ ∀ j, j < k → iy j = ix) (fun k => l.length - k) 0 ⟨by omega, fun j hj => by omega⟩ ?_ ?_
  ·(refine z02 (by rfl) ?_ ?_) <;> (repeat' (first | (exact eqA) | (refine shE ?_) | (refine And.intro ?_ ?_))) <;> first | rfl | decide
  ·intro k hkk
   have hk := hkk.1
   have hp := hkk.2
   by_cases hlt : k < l.length
   ·have c6 := hix k hlt
    by_cases hq : iy k = ix
    ·have hq2 : ((iy k : Nat) : Int) = ((ix : Nat) : Int) := by omega
     repeat ((try conv => whnf); first | (refine Exists.intro l.length (And.intro hll ?_)) | (refine i_at (z1K hlt) ?_) | (refine ccA ([]) (c6) ?_) | (refine z1C hq2 ?_) | (refine stpQ ?_))
     refine ⟨k + 1, ⟨by omega, fun j hj => ?_⟩, by omega, ?_⟩
     ·by_cases hjk : j = k
      ·rw [hjk]; exact hq
      ·exact hp j (by omega)
     ·(refine z02 (by rfl) ?_ ?_) <;> (repeat' (first | (exact eqA) | (refine shE ?_) | (refine And.intro ?_ ?_)))
    ·have hq2 : ¬ ((iy k : Nat) : Int) = ((ix : Nat) : Int) := by omega
     rw [hb2 k hlt hq]
     repeat ((try conv => whnf); first | (refine Exists.intro l.length (And.intro hll ?_)) | (refine i_at (z1K hlt) ?_) | (refine ccA ([]) (c6) ?_) | (refine z30 hq2 ?_) | (refine stpQ ?_))
     (refine z00 (by rfl) ?_ ?_ (by rfl)) <;> (repeat' (first | (exact eqA) | (refine shE ?_) | (refine And.intro ?_ ?_))) <;> rfl
   ·have hke : k = l.length := by omega
    rw [hke] at hp
    rw [hb1 hp]
    repeat ((try conv => whnf); first | (refine Exists.intro l.length (And.intro hll ?_)) | (refine stpQ ?_))
    (refine z00 (by rfl) ?_ ?_ (by rfl)) <;> (repeat' (first | (exact eqA) | (refine shE ?_) | (refine And.intro ?_ ?_))) <;> rfl
 ·rw [decide_eq_false h8]
  repeat ((try conv => whnf); first | (refine ccA ([]) (c1) ?_) | (refine ccA ([]) (c2) ?_) | (refine Exists.intro s.length (And.intro hlen ?_)) | (refine stpQ ?_))
  (refine z00 (by rfl) ?_ ?_ (by rfl)) <;> (repeat' (first | (exact eqA) | (refine shE ?_) | (refine And.intro ?_ ?_))) <;> rfl
theorem z93 (ix j : Nat) (hix : ix < 256) (hj : j < 8) : CT Tryz.prog 81 [] [.int .i64 (ix : Int), .int .i64 (7 - (j : Int))] (.int .i64 ((bitB ix j : Nat) : Int)) [] := by
 have c1 : CT Tryz.prog 30 [] [.int .i64 (7 - (j : Int)), .int .i64 0, .int .i64 7] (.bool true) [] := by
  have := z10 (7 - (j : Int)) 0 7
  rwa [z0r.2 (by omega)] at this
 have e1 : IntKind.i64.wrap (7 - (7 - (j : Int))) = ((j : Nat) : Int) := by rw [wrap_i64 (by omega) (by omega)]; omega
 have e1u := z6W (show j ≤ 8 by omega)
 have e2 := z6R ix j
 have e3 := zbv (ix / 2 ^ j) (zf9 hix hj).2.2
 unfold bitB
 refine z01 z0m 1 rfl Tryz.func81 rfl rfl rfl ?_
 repeat ((try conv => whnf); first | (refine ccA ([]) (c1) ?_) | (refine Exists.intro _ (And.intro e1.symm ?_)) | (refine Exists.intro _ (And.intro e1u.symm ?_)) | (refine And.intro (show _ ≤ (64 : Int) from by omega) ?_) | (refine Exists.intro _ (And.intro e2.symm ?_)) | (refine Exists.intro _ (And.intro e3.symm ?_)) | (refine stpQ ?_))
 (refine z00 (by rfl) ?_ ?_ (by rfl)) <;> (repeat' (first | (exact eqA) | (refine shE ?_) | (refine And.intro ?_ ?_)))
end Go.Proofs.YtgmbkbggnlponaaGreatDoor
namespace Go.Proofs.YtgmbkbggnlponaaGreatDoor
set_option linter.unusedVariables false
set_option linter.unusedSimpArgs false
set_option linter.unusedSectionVars false
open Go.RowKit Pl
attribute [local irreducible] z0t z0u z0y AnsP LeP
set_option maxRecDepth 100000 in
set_option maxHeartbeats 8000000 in
theorem z98 (nm : Bs) (l : List Lf) (s : List Bs) (w : Nat) (hz : PfSz nm l s) (h : z1E nm l s (w : Int) = true) :
 CT Tryz.prog 83 [] [.str nm, .agg [.sl 2 (lvE l), .sl 1 (strE s)], .int .i64 (w : Int)] (.ref 1) [.row 1 (strE (z1e nm l s w))] := by
 obtain ⟨h1, h2, h3, h4, h5, h6⟩ := z3Q h
 have hnl := z1B h1
 have h24 := (z0K h2).1
 have hw : 1 ≤ w ∧ w ≤ 32 := by omega
 have c1 := z5p nm l s (w : Int) hz
 rw [h] at c1
 have c2 := z4Y l h2
 have hbl := z2T h2
 have c4 := z25 nm (by omega)
 have hix := z6J nm
 have hslen := z0c s
 have hR0 : FdAt (z1e nm l s w, z5N nm l s w) (ixB nm) w [z0T l] 0 (cutB (z0T l) w) (s.drop 0) := rfl
 have hR1 : (z1e nm l s w).length = s.length + 1 := z42 nm l s w
 generalize z1e nm l s w = RT at hR0 hR1 ⊢
 generalize z5N nm l s w = RL at hR0
 generalize z0T l = t0 at c2 hbl hR0
 generalize ixB nm = ix at c4 hix hR0
 refine z01 z0m 1 rfl Tryz.func83 rfl rfl rfl ?_
 repeat ((try conv => whnf); first | (refine ccA ([]) (c1) ?_) | (refine ccA ([]) (c2) ?_) | (refine ccA ([]) (c4) ?_) | (refine stpQ ?_))
 refine z0h 0 ⟨[(10, .ref 1)], [(1, some (.row 1 (strE RT)))], 2⟩ (Nat × List Bs) (fun ⟨k, A⟩ => ⟨[(2, .int .i64 (w : Int)), (4, .ptr 1 0 0), (7, .int .i64 (ix : Int)), (10, .ref 2), (11, .int .i64 (k : Int))], [(1, some (.box [.sl 2 (lvE l), .sl 1 (strE s)])), (2, some (.row 1 (strE A)))], 3⟩) (fun ⟨k, A⟩ => k ≤ s.length ∧ A.length = k + 1 ∧ (∀ t ∈ A, t.length ≤ 12301) ∧ FdAt (RT, RL) ix w A k (cutB (pAt A k) w) (s.drop k)) (fun ⟨k, A⟩ => s.length - k) (0, [t0]) ⟨by simp, rfl, (by intro t ht; rw [List.mem_singleton.1 ht]; exact hbl), hR0⟩ ?_ ?_ ?_
 ·(refine z02 (by rfl) ?_ ?_) <;> (repeat' (first | (exact eqA) | (refine shE ?_) | (refine And.intro ?_ ?_))) <;> first | rfl | decide
 ·intro x hx
  obtain ⟨k, T⟩ := x
  have hk : k ≤ s.length := hx.1
  have hT : T.length = k + 1 := hx.2.1
  have hsm : ∀ t ∈ T, t.length ≤ 12301 := hx.2.2.1
  have hat : FdAt (RT, RL) ix w T k (cutB (pAt T k) w) (s.drop k) := hx.2.2.2
  clear hx
  have hTl := z0c T
  by_cases hlt : k < s.length
  ·have hkT : k < T.length := by omega
   rw [z61 hlt] at hat
   have hst := hat.step
   have hpT : (pAt T k).length ≤ 12301 := by
    simp only [pAt, List.getD, List.getElem?_eq_getElem hkT, Option.getD_some]; exact hsm _ (List.getElem_mem hkT)
   have hpl : (pAt s k).length ≤ 200 := by
    have : pAt s k ∈ s := by simp only [pAt, List.getD, List.getElem?_eq_getElem hlt, Option.getD_some]; exact List.getElem_mem hlt
    have := h5 _ this; omega
   have c5 := z6V (pAt T k) w (by omega) hw
   have hcl := z1M (t := pAt T k) hw.2
   generalize cutB (pAt T k) w = h0 at hst c5 hcl
   have hpo := z6T (ix := ix) (j := k) (show h0.length ≤ 200 by omega) hpl
   have c6 := z93 ix k hix (by omega)
   have c7 := z43 3 (z1p ix k h0 (pAt s k)) (by omega) hpo
   have htl := z2e (k := 3) hpo
   have e1 : IntKind.i64.wrap (7 - (k : Int)) = 7 - (k : Int) := wrap_i64 (by omega) (by omega)
   by_cases hb : bitB ix k = 1
   ·have hb2 : ((bitB ix k : Nat) : Int) = 1 := by omega
    have hpr : z1p ix k h0 (pAt s k) = [pAt s k, h0] := by unfold z1p; rw [if_pos hb]
    rw [hpr] at c7 hst htl
    generalize tagB 3 [pAt s k, h0] = tg at c7 hst htl
    repeat ((try conv => whnf); first | (refine Exists.intro s.length (And.intro hslen ?_)) | (refine i_lt (by omega) ?_) | (refine Exists.intro _ (And.intro (z0n hkT) ?_)) | (refine i_at (z0n hlt) ?_) | (refine ccA ([]) (c5) ?_) | (refine Exists.intro _ (And.intro e1.symm ?_)) | (refine ccA ([]) (c6) ?_) | (refine z0i hb2 ?_) | (refine ccA ([]) (c7) ?_) | (refine And.intro (by rw [List.length_append]; simp; omega) ?_) | (refine stpQ ?_))
    have hlast : pAt (T ++ [tg]) (k + 1) = tg := by rw [pAt, List.getD, ← hT, List.getElem?_concat_length]; rfl
    refine ⟨(k + 1, T ++ [tg]), ⟨by show k + 1 ≤ _; omega, by simp [hT], (by
     intro t ht
     rcases List.mem_append.1 ht with ht | ht
     ·exact hsm t ht
     ·rw [List.mem_singleton.1 ht]; exact htl), by show FdAt _ _ _ (T ++ [tg]) (k + 1) (cutB (pAt (T ++ [tg]) (k + 1)) w) _; rw [hlast]; exact hst⟩, (by show s.length - (k + 1) < s.length - k; omega), ?_⟩
    (refine z02 (by rfl) ?_ ?_) <;> (repeat' (first | (exact eqA) | (refine shE ?_) | (refine And.intro ?_ ?_)))
    rw [z0R]; rfl
   ·have hb2 : ¬ ((bitB ix k : Nat) : Int) = 1 := by omega
    have hpr : z1p ix k h0 (pAt s k) = [h0, pAt s k] := by unfold z1p; rw [if_neg hb]
    rw [hpr] at c7 hst htl
    generalize tagB 3 [h0, pAt s k] = tg at c7 hst htl
    repeat ((try conv => whnf); first | (refine Exists.intro s.length (And.intro hslen ?_)) | (refine i_lt (by omega) ?_) | (refine Exists.intro _ (And.intro (z0n hkT) ?_)) | (refine i_at (z0n hlt) ?_) | (refine ccA ([]) (c5) ?_) | (refine Exists.intro _ (And.intro e1.symm ?_)) | (refine ccA ([]) (c6) ?_) | (refine z0k hb2 ?_) | (refine ccA ([]) (c7) ?_) | (refine And.intro (by rw [List.length_append]; simp; omega) ?_) | (refine stpQ ?_))
    have hlast : pAt (T ++ [tg]) (k + 1) = tg := by rw [pAt, List.getD, ← hT, List.getElem?_concat_length]; rfl
    refine ⟨(k + 1, T ++ [tg]), ⟨by show k + 1 ≤ _; omega, by simp [hT], (by
     intro t ht
     rcases List.mem_append.1 ht with ht | ht
     ·exact hsm t ht
     ·rw [List.mem_singleton.1 ht]; exact htl), by show FdAt _ _ _ (T ++ [tg]) (k + 1) (cutB (pAt (T ++ [tg]) (k + 1)) w) _; rw [hlast]; exact hst⟩, (by show s.length - (k + 1) < s.length - k; omega), ?_⟩
    (refine z02 (by rfl) ?_ ?_) <;> (repeat' (first | (exact eqA) | (refine shE ?_) | (refine And.intro ?_ ?_)))
    rw [z0R]; rfl
  ·have hke : k = s.length := by omega
   rw [hke, List.drop_length] at hat
   have hd := hat.done
   have hRT : RT = T := (Prod.mk.inj hd).1
   rw [hRT, hke]
   repeat ((try conv => whnf); first | (refine Exists.intro s.length (And.intro hslen ?_)) | (refine stpQ ?_))
   (refine z02 (by rfl) ?_ ?_) <;> (repeat' (first | (exact eqA) | (refine shE ?_) | (refine And.intro ?_ ?_)))
 ·repeat ((try conv => whnf); first | (refine stpQ ?_))
  (refine z00 (by rfl) ?_ ?_ (by rfl)) <;> (repeat' (first | (exact eqA) | (refine shE ?_) | (refine And.intro ?_ ?_)))
end Go.Proofs.YtgmbkbggnlponaaGreatDoor
namespace Go.Proofs.YtgmbkbggnlponaaGreatDoor
set_option maxRecDepth 100000
set_option maxHeartbeats 2000000
set_option linter.unusedVariables false
set_option linter.unusedSimpArgs false
set_option linter.unusedSectionVars false
open Go.RowKit Pl
attribute [local irreducible] z0t z0u z0y AnsP LeP
theorem zfp (nm : Bs) (l : List Lf) (s : List Bs) (w : Int) (h : PfSz nm l s) :
 CT Tryz.prog 83 [] [.str nm, .agg [.sl 2 (lvE l), .sl 1 (strE s)], .int .i64 w] (.ref 1) [.row 1 (strE (z84 nm l s w))] := by
 unfold z84
 by_cases hg : z1E nm l s w = true
 ·rw [if_pos hg]
  obtain ⟨n, rfl⟩ : ∃ n : Nat, w = n := ⟨w.toNat, by have := (z3Q hg).2.2.2.1; omega⟩
  exact z98 nm l s n h hg
 ·rw [if_neg hg]
  have c1 := z5p nm l s w h
  rw [show z1E nm l s w = false by simpa using hg] at c1
  refine z01 z0m 1 rfl Tryz.func83 rfl rfl rfl ?_
  repeat ((try conv => whnf); first | (refine ccA ([]) (c1) ?_) | (refine stpQ ?_))
  (refine z00 (by rfl) ?_ ?_ (by rfl)) <;> (repeat' (first | (exact eqA) | (refine shE ?_) | (refine And.intro ?_ ?_))) <;> first | rfl | decide
theorem zgC (nm : Bs) (l : List Lf) (s : List Bs) (w : Int) (hz : PfSz nm l s) :
 CT Tryz.prog 28 [] [.str nm, .agg [.sl 2 (lvE l), .sl 1 (strE s)], .int .i64 w] (.str (zbA nm l s w)) [] := by
 have c1 := zfp nm l s w hz
 unfold zbA
 unfold z84 at c1
 by_cases hg : z1E nm l s w = true
 ·rw [if_pos hg] at c1 ⊢
  obtain ⟨n, rfl⟩ : ∃ n : Nat, w = n := ⟨w.toNat, by have := (z3Q hg).2.2.2.1; omega⟩
  rw [Int.toNat_natCast] at c1 ⊢
  obtain ⟨h1, h2, h3, h4, h5, h6⟩ := z3Q hg
  have hl := z42 nm l s n
  have hla := z6U nm l s n
  have e : z5N nm l s n = cutB (pAt (z1e nm l s n) s.length) n := by rw [hla]; exact (z4Q _ _ _ _ _ _ rfl).symm
  have hsm : (pAt (z1e nm l s n) s.length).length ≤ 12301 := by
   have hm : pAt (z1e nm l s n) s.length ∈ z1e nm l s n := by
    simp only [pAt, List.getD, List.getElem?_eq_getElem (show s.length < (z1e nm l s n).length by omega), Option.getD_some]
    exact List.getElem_mem _
   rcases List.mem_cons.1 hm with hm | hm
   ·rw [hm]; exact z2T h2
   ·exact z4X (l := []) (by rw [z1M (by omega)]; omega) (by omega) (fun x hx => by have := h5 x hx; omega) _ hm
  have c2 := z6V (pAt (z1e nm l s n) s.length) n (by omega) (by omega)
  rw [e]
  have hlt : s.length < (z1e nm l s n).length := by omega
  generalize z1e nm l s n = t at c1 c2 hl hlt ⊢
  have htl := z0c t
  refine z01 z0m 1 rfl Tryz.func28 rfl rfl rfl ?_
  repeat ((try conv => whnf); first | (refine z29 ([]) (c1) (by ((repeat' (first | (exact trivial) | (exact rfl) | (refine And.intro ?_ ?_))); first | done | fail)) (by ((repeat' (first | (exact trivial) | (exact rfl) | (refine And.intro ?_ ?_))); first | done | fail)) (by decide) (by rfl) (by first | exact .inl rfl | (refine .inr ⟨by simp [own2, own1, own0], fun e he => ?_⟩; simp only [List.mem_cons, List.not_mem_nil, or_false] at he <;> first | exact he.elim | (subst he; (first | exact z0C _ | exact z0q _)) | (rcases he with rfl | rfl <;> (first | exact z0C _ | exact z0q _)))) ?_) | (refine Exists.intro (s.length + 1) (And.intro (by rw [htl, hl]) ?_)) | (refine i_lt (i := s.length) (by omega) ?_) | (refine Exists.intro _ (And.intro (z0n hlt) ?_)) | (refine ccA ([]) (c2) ?_) | (refine stpQ ?_))
  (refine z00 (by rfl) ?_ ?_ (by rfl)) <;> (repeat' (first | (exact eqA) | (refine shE ?_) | (refine And.intro ?_ ?_)))
 ·rw [if_neg hg] at c1 ⊢
  refine z01 z0m 1 rfl Tryz.func28 rfl rfl rfl ?_
  repeat ((try conv => whnf); first | (refine z29 ([]) (c1) (by ((repeat' (first | (exact trivial) | (exact rfl) | (refine And.intro ?_ ?_))); first | done | fail)) (by ((repeat' (first | (exact trivial) | (exact rfl) | (refine And.intro ?_ ?_))); first | done | fail)) (by decide) (by rfl) (by first | exact .inl rfl | (refine .inr ⟨by simp [own2, own1, own0], fun e he => ?_⟩; simp only [List.mem_cons, List.not_mem_nil, or_false] at he <;> first | exact he.elim | (subst he; (first | exact z0C _ | exact z0q _)) | (rcases he with rfl | rfl <;> (first | exact z0C _ | exact z0q _)))) ?_) | (refine Exists.intro 0 (And.intro rfl ?_)) | (refine stpQ ?_))
  (refine z00 (by rfl) ?_ ?_ (by rfl)) <;> (repeat' (first | (exact eqA) | (refine shE ?_) | (refine And.intro ?_ ?_))) <;> rfl
theorem zap (l : List Lf) (s : List Bs) (nm : Bs) (hl : (l.length : Int) ≤ 1000000000) : CT Tryz.prog 32 [] [.str nm, .agg [.sl 2 (lvE l), .sl 1 (strE s)]] (.tup [.str ((z0I l nm).getD []), .bool (z0I l nm).isSome]) [] := by
 have c1 := zdk l nm hl
 generalize (z0I l nm).getD [] = a at c1 ⊢
 generalize (z0I l nm).isSome = b at c1 ⊢
 refine z01 z0m 1 rfl Tryz.func32 rfl rfl rfl ?_
 repeat ((try conv => whnf); first | (refine ccA ([]) (c1) ?_) | (refine And.intro (by kernel_rfl) ?_) | (refine stpQ ?_))
 (refine z00 (by rfl) ?_ ?_ (by rfl)) <;> (repeat' (first | (exact eqA) | (refine shE ?_) | (refine And.intro ?_ ?_)))
end Go.Proofs.YtgmbkbggnlponaaGreatDoor
