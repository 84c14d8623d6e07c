/- Functions by content: shards, what they make of a record. Functions by content: a shard commits, applies a record, is made from its disk. -/
import Derived.Test.YtbcgmjdfnjmhoaaGreatDoorLgu
import Derived.Test.YtbcgmjdfnjmhoaaGreatDoorCap
import Derived.Test.YtbcgmjdfnjmhoaaGreatDoorHb
namespace Go.Proofs.YtbcgmjdfnjmhoaaGreatDoor
set_option maxRecDepth 100000
set_option maxHeartbeats 2000000
set_option linter.unusedVariables false
set_option linter.unusedSimpArgs false
set_option linter.unusedSectionVars false
open Go.RowKit Pl
attribute [local irreducible] z0F z0I z0T AnsP LeP
def vwE (l : List (List Lf)) : List (List T) := l.map fun v => [.sl 2 (lvE v)]
def ntE (l : List Nat) : List (List T) := l.map fun n : Nat => [.int .i64 (n : Int)]
theorem zdH (l : List (List Lf)) : (vwE l).length = l.length := by simp [vwE]
theorem z5O (l : List Nat) : (ntE l).length = l.length := by simp [ntE]
theorem vw_app (a b : List (List Lf)) : vwE (a ++ b) = vwE a ++ vwE b := by simp [vwE]
theorem zdI (a b : List Nat) : ntE (a ++ b) = ntE a ++ ntE b := by simp [ntE]
theorem zdJ (a b : List Ch) : chE (a ++ b) = chE a ++ chE b := by simp [chE]
def svE (a K : Int) (up : Bool) (fs : List Fl) (V : List (List T)) (s : Sv) : List T := [.int .i64 a, .int .i64 K, .bool up, .sl 3 (flE fs), .int .i64 (s.ep : Int), .sl 1 V, .sl 1 (ntE s.tk), .sl 3 (chE s.al), .int .i64 (s.re : Int), .int .i64 (s.rt : Int), .int .i64 (s.rk : Int)]
def svB (a K : Int) (up : Bool) (fs : List Fl) (s : Sv) (v k l : Nat) : Ent := .box [.int .i64 a, .int .i64 K, .bool up, .sl 3 (flE fs), .int .i64 (s.ep : Int), .ref v, .ref k, .ref l, .int .i64 (s.re : Int), .int .i64 (s.rt : Int), .int .i64 (s.rk : Int)]
theorem zac (n : Int) : CT Tryz.prog 108 [] [.int .i64 n] (.bool (inB n 0 2)) [] := by
 have c1 := c_in n 0 2
 generalize inB n 0 2 = b at c1 ⊢
 refine z01 z03 1 rfl Tryz.func108 rfl rfl rfl ?_
 repeat ((try conv => whnf); first | (refine ccA ([]) (c1) ?_) | (refine stpQ ?_))
 (refine z00 (by rfl) ?_ ?_ (by rfl)) <;> (repeat' (first | (exact eqA) | (refine And.intro ?_ ?_) | ((fail_if_success (with_reducible (show _ = _))); (show _ = _))))
theorem z7q {l : List Ch} {n : Int} {k : Nat} (h : k < l.length) (hx : ∀ j, j < k → (chAt l j).1 ≠ n) (he : (chAt l k).1 = n) : idIx l n = some k := by
 rw [idIx, List.findIdx?_eq_some_iff_getElem]
 refine ⟨h, by rw [← za2 h, he]; simp, fun j hj => ?_⟩
 have := hx j hj
 rw [za2 (by omega)] at this
 simpa using this
theorem z7r {l : List Ch} {n : Int} (hx : ∀ j, j < l.length → (chAt l j).1 ≠ n) : idIx l n = none := by
 rw [idIx, List.findIdx?_eq_none_iff]
 intro x hm
 obtain ⟨j, hj, rfl⟩ := List.getElem_of_mem hm
 have := hx j hj
 rw [za2 hj] at this
 simpa using this
theorem zd3 (l : List Ch) (n : Int) (hl : (l.length : Int) ≤ 100000000) : CT Tryz.prog 119 [] [.sl 3 (chE l), .int .i64 n] (.int .i64 (ixI (idIx l n))) [] := by
 have hlen := z2M l
 refine z01 z03 1 rfl Tryz.func119 rfl rfl rfl ?_
 repeat ((try conv => whnf); first | (refine stpQ ?_))
 refine z0y Nat (fun k => ⟨[(0, .sl 3 (chE l)), (1, .int .i64 n), (5, .int .i64 (k : Int))], [], 1⟩) (fun k => k ≤ l.length ∧ ∀ j, j < k → (chAt l j).1 ≠ n) (fun k => l.length - k) 0 ⟨by omega, fun j hj => by omega⟩ ?_ ?_
 ·(refine z02 (by rfl) ?_ ?_) <;> repeat' (first | (exact eqA) | (refine And.intro ?_ ?_) | ((fail_if_success (with_reducible (show _ = _))); (show _ = _)))
 ·intro k hx
  have hk : k ≤ l.length := hx.1
  have hp : ∀ j, j < k → (chAt l j).1 ≠ n := hx.2
  clear hx
  by_cases hlt : k < l.length
  ·have hlt2 : (k : Int) < ((chE l).length : Int) := by omega
   by_cases he : (chAt l k).1 = n
   ·rw [z7q hlt hp he]
    repeat ((try conv => whnf); first | (refine i_at (z5I hlt) ?_) | (refine z0t he ?_) | (refine stpQ ?_))
    (refine z00 (by rfl) ?_ ?_ (by rfl)) <;> (repeat' (first | (exact eqA) | (refine And.intro ?_ ?_) | ((fail_if_success (with_reducible (show _ = _))); (show _ = _)))) <;> rfl
   ·repeat ((try conv => whnf); first | (refine i_at (z5I hlt) ?_) | (refine z0i he ?_) | (refine stpQ ?_))
    refine ⟨k + 1, ⟨by omega, fun j hj => ?_⟩, by omega, ?_⟩
    ·by_cases hjk : j = k
     ·subst hjk; exact he
     ·exact hp j (by omega)
    ·(refine z02 (by rfl) ?_ ?_) <;> repeat' (first | (exact eqA) | (refine And.intro ?_ ?_) | ((fail_if_success (with_reducible (show _ = _))); (show _ = _)))
  ·rw [z7r (fun j hj => hp j (by omega))]
   repeat ((try conv => whnf); first | (refine stpQ ?_))
   (refine z00 (by rfl) ?_ ?_ (by rfl)) <;> (repeat' (first | (exact eqA) | (refine And.intro ?_ ?_) | ((fail_if_success (with_reducible (show _ = _))); (show _ = _)))) <;> rfl
def fcT (l : List Ch) (n : Int) : T := match idIx l n with
 | some k => .tup [.agg (chL (chAt l k)), .bool true]
 | none => .tup [.agg (chL (0, [], [])), .bool false]
theorem z3x (l : List Ch) (n : Int) (hl : (l.length : Int) ≤ 100000000) : CT Tryz.prog 127 [] [.sl 3 (chE l), .int .i64 n] (fcT l n) [] := by
 have hlen := z2M l
 unfold fcT
 refine z01 z03 1 rfl Tryz.func127 rfl rfl rfl ?_
 repeat ((try conv => whnf); first | (refine stpQ ?_))
 refine z0y Nat (fun k => ⟨[(1, .int .i64 n), (4, .ptr 1 0 0), (8, .sl 3 (chE l)), (9, .int .i64 ((chE l).length : Int)), (10, .int .i64 (k : Int))], [(1, some (.box (chL (0, [], []))))], 2⟩) (fun k => k ≤ l.length ∧ ∀ j, j < k → (chAt l j).1 ≠ n) (fun k => l.length - k) 0 ⟨by omega, fun j hj => by omega⟩ ?_ ?_
 ·(refine z02 (by rfl) ?_ ?_) <;> (repeat' (first | (exact eqA) | (refine And.intro ?_ ?_) | ((fail_if_success (with_reducible (show _ = _))); (show _ = _)))) <;> first | rfl | decide
 ·intro k hx
  have hk : k ≤ l.length := hx.1
  have hp : ∀ j, j < k → (chAt l j).1 ≠ n := hx.2
  clear hx
  by_cases hlt : k < l.length
  ·have hlt2 : (k : Int) < ((chE l).length : Int) := by omega
   by_cases he : (chAt l k).1 = n
   ·rw [z7q hlt hp he]
    repeat ((try conv => whnf); first | (refine i_at (z5I hlt) ?_) | (refine z0t he ?_) | (refine stpQ ?_))
    (refine z00 (by rfl) ?_ ?_ (by rfl)) <;> (repeat' (first | (exact eqA) | (refine And.intro ?_ ?_) | ((fail_if_success (with_reducible (show _ = _))); (show _ = _)))) <;> rfl
   ·repeat ((try conv => whnf); first | (refine i_at (z5I hlt) ?_) | (refine z0i he ?_) | (refine stpQ ?_))
    refine ⟨k + 1, ⟨by omega, fun j hj => ?_⟩, by omega, ?_⟩
    ·by_cases hjk : j = k
     ·subst hjk; exact he
     ·exact hp j (by omega)
    ·(refine z02 (by rfl) ?_ ?_) <;> (repeat' (first | (exact eqA) | (refine And.intro ?_ ?_) | ((fail_if_success (with_reducible (show _ = _))); (show _ = _)))) <;> first | rfl | decide
  ·rw [z7r (fun j hj => hp j (by omega))]
   repeat ((try conv => whnf); first | (refine stpQ ?_))
   (refine z00 (by rfl) ?_ ?_ (by rfl)) <;> (repeat' (first | (exact eqA) | (refine And.intro ?_ ?_) | ((fail_if_success (with_reducible (show _ = _))); (show _ = _)))) <;> rfl
theorem z9l (a d : Nat) : ((a : Nat) : Int) / 2 ^ ((d : Nat) : Int).toNat = ((a / 2 ^ d : Nat) : Int) := by rw [Int.toNat_natCast]; simp
theorem zbU (nm : Bs) (K : Int) (hn : (nm.length : Int) ≤ 100000000) : CT Tryz.prog 128 [] [.str nm, .int .i64 K] (.int .i64 (z1o nm K : Int)) [] := by
 have c1 := c_in K 0 2
 have c0 := zac K
 by_cases h : 0 ≤ K ∧ K ≤ 2
 ·rw [z3w h] at c0
  obtain ⟨k, rfl⟩ : ∃ k : Nat, K = k := ⟨K.toNat, by omega⟩
  have hr : z1o nm (k : Int) = ixB nm / 2 ^ (8 - k) := by rw [z1o, if_pos h, Int.toNat_natCast]
  rw [hr]
  have c2 := zbT nm hn
  have e1 : IntKind.i64.wrap (8 - (k : Int)) = ((8 - k : Nat) : Int) := by rw [z0K (by omega) (by omega)]; omega
  have e2 := z9l (ixB nm) (8 - k)
  generalize ixB nm = ix at c2 e2 ⊢
  refine z01 z03 1 rfl Tryz.func128 rfl rfl rfl ?_
  repeat ((try conv => whnf); first | (refine ccA ([]) (c0) ?_) | (refine ccA ([]) (c2) ?_) | (refine Exists.intro _ (And.intro e1.symm ?_)) | (refine And.intro (show _ ≤ (64 : Int) from by omega) ?_) | (refine Exists.intro _ (And.intro e2.symm ?_)) | (refine stpQ ?_))
  (refine z00 (by rfl) ?_ ?_ (by rfl)) <;> repeat' (first | (exact eqA) | (refine And.intro ?_ ?_) | ((fail_if_success (with_reducible (show _ = _))); (show _ = _)))
 ·rw [z89 h] at c0
  have hr : z1o nm K = 0 := by rw [z1o, if_neg h]
  rw [hr]
  refine z01 z03 1 rfl Tryz.func128 rfl rfl rfl ?_
  repeat ((try conv => whnf); first | (refine ccA ([]) (c0) ?_) | (refine stpQ ?_))
  (refine z00 (by rfl) ?_ ?_ (by rfl)) <;> (repeat' (first | (exact eqA) | (refine And.intro ?_ ?_) | ((fail_if_success (with_reducible (show _ = _))); (show _ = _)))) <;> rfl
theorem zad (nm : Bs) (K : Int) (hn : (nm.length : Int) ≤ 100000000) : CT Tryz.prog 118 [] [.str nm, .int .i64 K] (.int .i64 (z1o nm K : Int)) [] := by
 have c0 := z37 K 0 2
 by_cases h : 0 ≤ K ∧ K ≤ 2
 ·rw [z3w h] at c0
  obtain ⟨k, rfl⟩ : ∃ k : Nat, K = k := ⟨K.toNat, by omega⟩
  have hr : z1o nm (k : Int) = ixB nm / 2 ^ (8 - k) := by rw [z1o, if_pos h, Int.toNat_natCast]
  rw [hr]
  have c2 := zab nm hn
  have e1 : IntKind.i64.wrap (8 - (k : Int)) = ((8 - k : Nat) : Int) := by rw [z0K (by omega) (by omega)]; omega
  have e1u : IntKind.u64.wrap ((8 - k : Nat) : Int) = ((8 - k : Nat) : Int) := by
   show ((8 - k : Nat) : Int) % 18446744073709551616 = _
   omega
  have e2 := z9l (ixB nm) (8 - k)
  generalize ixB nm = ix at c2 e2 ⊢
  refine z01 z03 1 rfl Tryz.func118 rfl rfl rfl ?_
  repeat ((try conv => whnf); first | (refine ccA ([]) (c0) ?_) | (refine ccA ([]) (c2) ?_) | (refine Exists.intro _ (And.intro e1.symm ?_)) | (refine Exists.intro _ (And.intro e1u.symm ?_)) | (refine And.intro (show _ ≤ (64 : Int) from by omega) ?_) | (refine Exists.intro _ (And.intro e2.symm ?_)) | (refine stpQ ?_))
  (refine z00 (by rfl) ?_ ?_ (by rfl)) <;> repeat' (first | (exact eqA) | (refine And.intro ?_ ?_) | ((fail_if_success (with_reducible (show _ = _))); (show _ = _)))
 ·rw [z89 h] at c0
  have hr : z1o nm K = 0 := by rw [z1o, if_neg h]
  rw [hr]
  refine z01 z03 1 rfl Tryz.func118 rfl rfl rfl ?_
  repeat ((try conv => whnf); first | (refine ccA ([]) (c0) ?_) | (refine stpQ ?_))
  (refine z00 (by rfl) ?_ ?_ (by rfl)) <;> (repeat' (first | (exact eqA) | (refine And.intro ?_ ?_) | ((fail_if_success (with_reducible (show _ = _))); (show _ = _)))) <;> rfl
theorem zd4 {l : List Nat} (h : 0 < l.length) : l[l.length - 1]? = some (z2m l) := by
 rw [z2m, List.getLastD_eq_getLast?, List.getLast?_eq_getElem?]
 rw [List.getElem?_eq_getElem (by omega)]; rfl
theorem zbV {l : List Nat} (h : 0 < l.length) : (ntE l)[l.length - 1]? = some [.int .i64 ((z2m l : Nat) : Int)] := by
 have := zd4 h
 simp only [ntE, List.getElem?_map, this, Option.map_some]
theorem zbW (a K : Int) (up : Bool) (fs : List Fl) (V : List (List T)) (s : Sv) (h : 0 < s.tk.length ∧ (s.tk.length : Int) ≤ 1000000) : CT Tryz.prog 130 [] [.agg (svE a K up fs V s)] (.int .i64 (z2m s.tk : Int)) [] := by
 obtain ⟨ep, vs, tk, al, re, rt, rk⟩ := s
 have h1 : 0 < tk.length := h.1
 have h2 : (tk.length : Int) ≤ 1000000 := h.2
 have g := zbV h1
 have hl := z5O tk
 show CT _ _ _ _ (.int .i64 (z2m tk : Int)) _
 generalize z2m tk = x at g ⊢
 refine z01 z03 1 rfl Tryz.func130 rfl rfl rfl ?_
 repeat ((try conv => whnf); first | (refine Exists.intro tk.length (And.intro hl ?_)) | (refine i_at g ?_) | (refine stpQ ?_))
 (refine z00 (by rfl) ?_ ?_ (by rfl)) <;> repeat' (first | (exact eqA) | (refine And.intro ?_ ?_) | ((fail_if_success (with_reducible (show _ = _))); (show _ = _)))
theorem zbX (a K : Int) (up : Bool) (fs : List Fl) (V : List (List T)) (s : Sv) (h : 0 < s.tk.length ∧ (s.tk.length : Int) ≤ 1000000) : CT Tryz.prog 120 [] [.agg (svE a K up fs V s)] (.int .i64 (z2m s.tk : Int)) [] := by
 obtain ⟨ep, vs, tk, al, re, rt, rk⟩ := s
 have h1 : 0 < tk.length := h.1
 have h2 : (tk.length : Int) ≤ 1000000 := h.2
 have g := zbV h1
 have hl := z5O tk
 show CT _ _ _ _ (.int .i64 (z2m tk : Int)) _
 generalize z2m tk = x at g ⊢
 refine z01 z03 1 rfl Tryz.func120 rfl rfl rfl ?_
 repeat ((try conv => whnf); first | (refine Exists.intro tk.length (And.intro hl ?_)) | (refine i_at g ?_) | (refine stpQ ?_))
 (refine z00 (by rfl) ?_ ?_ (by rfl)) <;> repeat' (first | (exact eqA) | (refine And.intro ?_ ?_) | ((fail_if_success (with_reducible (show _ = _))); (show _ = _)))
theorem zbY {us : List Ch} (h : ∀ u ∈ us, z0f u.1 u.2.1 u.2.2 = true) : ∀ k, z83 (chAt us k) := fun k => by
 rcases Nat.lt_or_ge k us.length with hl | hl
 ·have h1 := h _ (List.getElem_mem hl)
  rw [za2 hl]
  unfold z0f at h1
  simp only [Bool.and_eq_true, Bool.or_eq_true, decide_eq_true_eq] at h1
  have h2 := z1h h1.1.2
  refine ⟨by omega, ?_⟩
  rcases h1.2 with h3 | h3
  ·rw [List.isEmpty_iff.1 h3]; simp
  ·have := z1w h3; omega
 ·simp [chAt, List.getD, List.getElem?_eq_none hl, z83]
theorem zd5 (us : List Ch) : us.foldl z2z [] = us.foldl z1r [] := zbz (by simp [z04])
theorem zbZ (l : List Ch) (n : Nat) : (chE l).take n = chE (l.take n) := by simp [chE, List.map_take]
theorem z6q (a K : Int) (up : Bool) (fs : List Fl) (V : List (List T)) (s : Sv) (h : s.rk ≤ s.al.length ∧ (s.al.length : Int) ≤ 1000000) (hc : ∀ u ∈ s.al, z0f u.1 u.2.1 u.2.2 = true) : CT Tryz.prog 184 [] [.agg (svE a K up fs V s)] (.ref 1) [.row 2 (lvE (z29 s))] := by
 unfold z29
 obtain ⟨ep, vs, tk, al, re, rt, rk⟩ := s
 have h1 : rk ≤ al.length := h.1
 have h2 : (al.length : Int) ≤ 1000000 := h.2
 have hl := z2M al
 have c1 := za3 [] (al.take rk) (by simp [z04]) (by rw [List.length_take]; omega) (zbY fun u hu => hc u (List.mem_of_mem_take hu))
 rw [← zbZ] at c1
 show CT _ _ _ _ _ [.row 2 (lvE ((al.take rk).foldl z1r []))]
 generalize (al.take rk).foldl z1r [] = R at c1 ⊢
 have e1 : (rk : Int) = if (al.length : Int) < (rk : Int) then (al.length : Int) else (rk : Int) := by rw [if_neg (by omega)]
 have e2 : (rk : Int) = if (rk : Int) > 0 then (rk : Int) else 0 := by split <;> omega
 have h3 : rk ≤ (chE al).length := by omega
 refine z01 z03 1 rfl Tryz.func184 rfl rfl rfl ?_
 repeat ((try conv => whnf); first | (refine Exists.intro al.length (And.intro hl ?_)) | (refine Exists.intro _ (And.intro e1 ?_)) | (refine Exists.intro _ (And.intro e2 ?_)) | (refine i_le h3 ?_) | (refine ccA ([]) (c1) ?_) | (refine stpQ ?_))
 (refine z00 (by rfl) ?_ ?_ (by rfl)) <;> repeat' (first | (exact eqA) | (refine And.intro ?_ ?_) | ((fail_if_success (with_reducible (show _ = _))); (show _ = _)))
theorem z5i (a K : Int) (up : Bool) (fs : List Fl) (V : List (List T)) (s : Sv) (h : s.rk ≤ s.al.length ∧ (s.al.length : Int) ≤ 1000000) (hc : ∀ u ∈ s.al, z0f u.1 u.2.1 u.2.2 = true) : CT Tryz.prog 177 [] [.agg (svE a K up fs V s)] (.ref 1) [.row 2 (lvE (z29 s))] := by
 unfold z29
 obtain ⟨ep, vs, tk, al, re, rt, rk⟩ := s
 have h1 : rk ≤ al.length := h.1
 have h2 : (al.length : Int) ≤ 1000000 := h.2
 have hl := z2M al
 have c1 := z84 [] (al.take rk) (by simp [z04]) (by rw [List.length_take]; omega) (zbY fun u hu => hc u (List.mem_of_mem_take hu))
 rw [← zbZ, zd5] at c1
 show CT _ _ _ _ _ [.row 2 (lvE ((al.take rk).foldl z1r []))]
 generalize (al.take rk).foldl z1r [] = R at c1 ⊢
 have h3 : rk ≤ (chE al).length := by omega
 have h4 : ¬ (rk : Int) > (al.length : Int) := by omega
 have h5 : ¬ (rk : Int) < 0 := by omega
 refine z01 z03 1 rfl Tryz.func177 rfl rfl rfl ?_
 repeat ((try conv => whnf); first | (refine Exists.intro al.length (And.intro hl ?_)) | (refine i_le h3 ?_) | (refine z4J ([_]) ([]) (c1) (by ((repeat' (first | (exact trivial) | (exact rfl) | (decide) | (refine And.intro ?_ ?_))); first | done | fail)) (by ((repeat' (first | (exact trivial) | (exact rfl) | (decide) | (refine And.intro ?_ ?_))); first | done | fail)) (by decide) (by rfl) (by first | exact .inl rfl | (refine .inr ⟨?_, ?_⟩ <;> simp [own2, own1, own0, ownE])) ?_) | (refine zec ([]) (c1) (by ((repeat' (first | (exact trivial) | (exact rfl) | (decide) | (refine And.intro ?_ ?_))); first | done | fail)) (by ((repeat' (first | (exact trivial) | (exact rfl) | (decide) | (refine And.intro ?_ ?_))); first | done | fail)) (by decide) (by rfl) (by first | exact .inl rfl | (refine .inr ⟨?_, ?_⟩ <;> simp [own2, own1, own0, ownE])) ?_) | (refine stpQ ?_))
 (refine z00 (by rfl) ?_ ?_ (by rfl)) <;> repeat' (first | (exact eqA) | (refine And.intro ?_ ?_) | ((fail_if_success (with_reducible (show _ = _))); (show _ = _)))
end Go.Proofs.YtbcgmjdfnjmhoaaGreatDoor
namespace Go.Proofs.YtbcgmjdfnjmhoaaGreatDoor
set_option maxRecDepth 100000
set_option maxHeartbeats 2000000
set_option linter.unusedVariables false
set_option linter.unusedSimpArgs false
set_option linter.unusedSectionVars false
open Go.RowKit Pl
attribute [local irreducible] z0F z0I z0T AnsP LeP
def svH (a K : Int) (up : Bool) (fs : List Fl) (V : List (List T)) (s : Sv) : Rk → List Ent
 | .no => [svB a K up fs s 2 3 4, .row 1 V, .row 1 (ntE s.tk), .row 3 (chE s.al)]
 | .all u => [svB a K up fs { s with al := s.al ++ [u] } 2 3 5, .row 1 V, .row 1 (ntE s.tk), .row 0 [], .row 3 (chE (s.al ++ [u]))]
 | .rdy e y k => [svB a K up fs { s with re := e, rt := y, rk := k } 2 3 4, .row 1 V, .row 1 (ntE s.tk), .row 3 (chE s.al)]
 | .com => [svB a K up fs (z10 s) 5 6 4, .row 0 [], .row 0 [], .row 3 (chE s.al), .row 1 (V ++ [[.sl 2 (lvE (z29 s))]]), .row 1 (ntE (s.tk ++ [s.rk]))]
theorem z8b (a K : Int) (up : Bool) (fs : List Fl) (V : List (List T)) (hV : V.length ≤ 10) (s : Sv) {n : Nat} (g : SvOk n s) (hn : n ≤ 30000) : CT Tryz.prog 121 (svH a K up fs V s .no) [.ptr 1 0 0] (.tup []) (svH a K up fs V s .com) := by
 have g1 := g.ep
 have g2 := g.vl
 have g3 := g.tl
 have g4 := g.al
 have g5 := g.rk
 have c1 := z5i a K up fs V s ⟨g5, by omega⟩ g.ch
 unfold svH z10
 generalize z29 s = R at c1 ⊢
 clear g
 obtain ⟨ep, vs, tk, al, re, rt, rk⟩ := s
 simp only at g1 g2 g3 g4 g5 c1 ⊢
 have ht := z5O tk
 have e1 : IntKind.i64.wrap ((ep : Int) + 1) = ((ep + 1 : Nat) : Int) := by rw [z0K (by omega) (by omega)]; omega
 unfold svE at c1
 unfold svB
 simp only at c1 ⊢
 refine z01 z03 5 rfl Tryz.func121 rfl rfl rfl ?_
 repeat ((try conv => whnf); first | (refine z25 ([]) (c1) (by ((repeat' (first | (exact trivial) | (exact rfl) | (refine And.intro ?_ ?_))); first | done | fail)) (by ((repeat' (first | (exact trivial) | (exact rfl) | (refine And.intro ?_ ?_))); first | done | fail)) (by decide) (by rfl) (by first | exact .inl rfl | (refine .inr ⟨by simp [own2, own1, own0], fun e he => ?_⟩; simp only [List.mem_cons, List.not_mem_nil, or_false] at he <;> first | exact he.elim | (subst he; exact z0G _) | (rcases he with rfl | rfl <;> exact z0G _))) ?_) | (refine Exists.intro _ (And.intro e1.symm ?_)) | (refine And.intro (by simp only [List.length_append, List.length_cons, List.length_nil, List.length_set, List.length_replicate]; omega) ?_) | (refine And.intro (by kernel_rfl) ?_) | (refine stpQ ?_))
 (refine z00 (by rfl) ?_ ?_ (by rfl)) <;> (repeat' (first | (exact eqA) | (refine And.intro ?_ ?_) | ((fail_if_success (with_reducible (show _ = _))); (show _ = _))))
 all_goals first
  | exact (zdI tk [rk]).symm
  | rfl
theorem z8c {l : List Ch} {n : Int} (h : idIx l n = none) : fcT l n = .tup [.agg [.int .i64 0, .str [], .str []], .bool false] := by rw [fcT, h]; rfl
theorem z8d {l : List Ch} {n : Int} {k : Nat} (h : idIx l n = some k) : fcT l n = .tup [.agg [.int .i64 (chAt l k).1, .str (chAt l k).2.1, .str (chAt l k).2.2], .bool true] := by rw [fcT, h]; rfl
end Go.Proofs.YtbcgmjdfnjmhoaaGreatDoor
