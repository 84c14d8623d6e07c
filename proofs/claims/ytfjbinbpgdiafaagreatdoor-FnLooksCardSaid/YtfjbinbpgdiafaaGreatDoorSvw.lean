/- Functions by content: shards, what they make of a record. Functions by content: a shard commits, applies a record, is made from its disk. -/
import Derived.Test.YtfjbinbpgdiafaaGreatDoorLgu
import Derived.Test.YtfjbinbpgdiafaaGreatDoorCap
import Derived.Test.YtfjbinbpgdiafaaGreatDoorHb
namespace Go.Proofs.YtfjbinbpgdiafaaGreatDoor
set_option maxRecDepth 100000
set_option maxHeartbeats 8000000
set_option linter.unusedVariables false
set_option linter.unusedSimpArgs false
set_option linter.unusedSectionVars false
open Go.RowKit Pl
attribute [local irreducible] z0r z0s z0z AnsP LeP
def vwE (l : List (List Lf)) : List (List T) := l.map fun v => [.sl 2 (lvE v)]
def ntE (l : List Nat) : List (List T) := l.map fun n : Nat => [.int .i64 (n : Int)]
theorem z3D (l : List (List Lf)) : (vwE l).length = l.length := by simp [vwE]
theorem z8X (l : List Nat) : (ntE l).length = l.length := by simp [ntE]
theorem zg5 (a b : List (List Lf)) : vwE (a ++ b) = vwE a ++ vwE b := by simp [vwE]
theorem zg6 (a b : List Nat) : ntE (a ++ b) = ntE a ++ ntE b := by simp [ntE]
theorem ze5 (a b : List Ch) : chE (a ++ b) = chE a ++ chE b := by simp [chE]
def svE (a K : Int) (up : Bool) (fs : List Fl) (V : List (List T)) (s : Sv) : List T := [.int .i64 a, .int .i64 K, .bool up, .sl 3 (flE fs), .int .i64 (s.ep : Int), .sl 1 V, .sl 1 (ntE s.tk), .sl 3 (chE s.al), .int .i64 (s.re : Int), .int .i64 (s.rt : Int), .int .i64 (s.rk : Int)]
def svB (a K : Int) (up : Bool) (fs : List Fl) (s : Sv) (v k l : Nat) : Ent := .box [.int .i64 a, .int .i64 K, .bool up, .sl 3 (flE fs), .int .i64 (s.ep : Int), .ref v, .ref k, .ref l, .int .i64 (s.re : Int), .int .i64 (s.rt : Int), .int .i64 (s.rk : Int)]
theorem z3p (n : Int) : CT Tryz.prog 35 [] [.int .i64 n] (.bool (inB n 0 2)) [] := by
 have c1 := c_in n 0 2
 generalize inB n 0 2 = b at c1 ⊢
 refine z01 z0p 1 rfl Tryz.func35 rfl rfl rfl ?_
 repeat ((try conv => whnf); first | (refine ccA ([]) (c1) ?_) | (refine stpQ ?_))
 (refine z00 (by rfl) ?_ ?_ (by rfl)) <;> (repeat' (first | (exact eqA) | (refine And.intro ?_ ?_) | ((fail_if_success (with_reducible (show _ = _))); (show _ = _))))
theorem z8Y {l : List Ch} {n : Int} {k : Nat} (h : k < l.length) (hx : ∀ j, j < k → (chAt l j).1 ≠ n) (he : (chAt l k).1 = n) : idIx l n = some k := by
 rw [idIx, List.findIdx?_eq_some_iff_getElem]
 refine ⟨h, by rw [← z9R h, he]; simp, fun j hj => ?_⟩
 have := hx j hj
 rw [z9R (by omega)] at this
 simpa using this
theorem z8Z {l : List Ch} {n : Int} (hx : ∀ j, j < l.length → (chAt l j).1 ≠ n) : idIx l n = none := by
 rw [idIx, List.findIdx?_eq_none_iff]
 intro x hm
 obtain ⟨j, hj, rfl⟩ := List.getElem_of_mem hm
 have := hx j hj
 rw [z9R hj] at this
 simpa using this
theorem zfj (l : List Ch) (n : Int) (hl : (l.length : Int) ≤ 100000000) : CT Tryz.prog 150 [] [.sl 3 (chE l), .int .i64 n] (.int .i64 (ixI (idIx l n))) [] := by
 have hlen := z0R l
 refine z01 z0p 1 rfl Tryz.func150 rfl rfl rfl ?_
 repeat ((try conv => whnf); first | (refine stpQ ?_))
 refine z0K Nat (fun k => ⟨[(0, .sl 3 (chE l)), (1, .int .i64 n), (5, .int .i64 (k : Int))], [], 1⟩) (fun k => k ≤ l.length ∧ ∀ j, j < k → (chAt l j).1 ≠ n) (fun k => l.length - k) 0 ⟨by omega, fun j hj => by omega⟩ ?_ ?_
 ·(refine z02 (by rfl) ?_ ?_) <;> repeat' (first | (exact eqA) | (refine And.intro ?_ ?_) | ((fail_if_success (with_reducible (show _ = _))); (show _ = _)))
 ·intro k hx
  have hk : k ≤ l.length := hx.1
  have hp : ∀ j, j < k → (chAt l j).1 ≠ n := hx.2
  clear hx
  by_cases hlt : k < l.length
  ·have hlt2 : (k : Int) < ((chE l).length : Int) := by omega
   by_cases he : (chAt l k).1 = n
   ·rw [z8Y hlt hp he]
    repeat ((try conv => whnf); first | (refine i_at (z3A hlt) ?_) | (refine z0h he ?_) | (refine stpQ ?_))
    (refine z00 (by rfl) ?_ ?_ (by rfl)) <;> (repeat' (first | (exact eqA) | (refine And.intro ?_ ?_) | ((fail_if_success (with_reducible (show _ = _))); (show _ = _)))) <;> rfl
   ·repeat ((try conv => whnf); first | (refine i_at (z3A hlt) ?_) | (refine z0c he ?_) | (refine stpQ ?_))
    refine ⟨k + 1, ⟨by omega, fun j hj => ?_⟩, by omega, ?_⟩
    ·by_cases hjk : j = k
     ·subst hjk; exact he
     ·exact hp j (by omega)
    ·(refine z02 (by rfl) ?_ ?_) <;> repeat' (first | (exact eqA) | (refine And.intro ?_ ?_) | ((fail_if_success (with_reducible (show _ = _))); (show _ = _)))
  ·rw [z8Z (fun j hj => hp j (by omega))]
   repeat ((try conv => whnf); first | (refine stpQ ?_))
   (refine z00 (by rfl) ?_ ?_ (by rfl)) <;> (repeat' (first | (exact eqA) | (refine And.intro ?_ ?_) | ((fail_if_success (with_reducible (show _ = _))); (show _ = _)))) <;> rfl
def fcT (l : List Ch) (n : Int) : T := match idIx l n with
 | some k => .tup [.agg (chL (chAt l k)), .bool true]
 | none => .tup [.agg (chL (0, [], [])), .bool false]
theorem z4p (l : List Ch) (n : Int) (hl : (l.length : Int) ≤ 100000000) : CT Tryz.prog 165 [] [.sl 3 (chE l), .int .i64 n] (fcT l n) [] := by
 have hlen := z0R l
 unfold fcT
 refine z01 z0p 1 rfl Tryz.func165 rfl rfl rfl ?_
 repeat ((try conv => whnf); first | (refine stpQ ?_))
 refine z0K Nat (fun k => ⟨[(1, .int .i64 n), (4, .ptr 1 0 0), (8, .sl 3 (chE l)), (9, .int .i64 ((chE l).length : Int)), (10, .int .i64 (k : Int))], [(1, some (.box (chL (0, [], []))))], 2⟩) (fun k => k ≤ l.length ∧ ∀ j, j < k → (chAt l j).1 ≠ n) (fun k => l.length - k) 0 ⟨by omega, fun j hj => by omega⟩ ?_ ?_
 ·(refine z02 (by rfl) ?_ ?_) <;> (repeat' (first | (exact eqA) | (refine And.intro ?_ ?_) | ((fail_if_success (with_reducible (show _ = _))); (show _ = _)))) <;> first | rfl | decide
 ·intro k hx
  have hk : k ≤ l.length := hx.1
  have hp : ∀ j, j < k → (chAt l j).1 ≠ n := hx.2
  clear hx
  by_cases hlt : k < l.length
  ·have hlt2 : (k : Int) < ((chE l).length : Int) := by omega
   by_cases he : (chAt l k).1 = n
   ·rw [z8Y hlt hp he]
    repeat ((try conv => whnf); first | (refine i_at (z3A hlt) ?_) | (refine z0h he ?_) | (refine stpQ ?_))
    (refine z00 (by rfl) ?_ ?_ (by rfl)) <;> (repeat' (first | (exact eqA) | (refine And.intro ?_ ?_) | ((fail_if_success (with_reducible (show _ = _))); (show _ = _)))) <;> rfl
   ·repeat ((try conv => whnf); first | (refine i_at (z3A hlt) ?_) | (refine z0c he ?_) | (refine stpQ ?_))
    refine ⟨k + 1, ⟨by omega, fun j hj => ?_⟩, by omega, ?_⟩
    ·by_cases hjk : j = k
     ·subst hjk; exact he
     ·exact hp j (by omega)
    ·(refine z02 (by rfl) ?_ ?_) <;> (repeat' (first | (exact eqA) | (refine And.intro ?_ ?_) | ((fail_if_success (with_reducible (show _ = _))); (show _ = _)))) <;> first | rfl | decide
  ·rw [z8Z (fun j hj => hp j (by omega))]
   repeat ((try conv => whnf); first | (refine stpQ ?_))
   (refine z00 (by rfl) ?_ ?_ (by rfl)) <;> (repeat' (first | (exact eqA) | (refine And.intro ?_ ?_) | ((fail_if_success (with_reducible (show _ = _))); (show _ = _)))) <;> rfl
theorem zbw (a d : Nat) : ((a : Nat) : Int) / 2 ^ ((d : Nat) : Int).toNat = ((a / 2 ^ d : Nat) : Int) := by rw [Int.toNat_natCast]; simp
theorem z6c (nm : Bs) (K : Int) (hn : (nm.length : Int) ≤ 100000000) : CT Tryz.prog 37 [] [.str nm, .int .i64 K] (.int .i64 (z18 nm K : Int)) [] := by
 have c1 := c_in K 0 2
 have c0 := z3p K
 by_cases h : 0 ≤ K ∧ K ≤ 2
 ·rw [z2q h] at c0
  obtain ⟨k, rfl⟩ : ∃ k : Nat, K = k := ⟨K.toNat, by omega⟩
  have hr : z18 nm (k : Int) = ixB nm / 2 ^ (8 - k) := by rw [z18, if_pos h, Int.toNat_natCast]
  rw [hr]
  have c2 := z4o nm hn
  have e1 : IntKind.i64.wrap (8 - (k : Int)) = ((8 - k : Nat) : Int) := by rw [wrap_i64 (by omega) (by omega)]; omega
  have e2 := zbw (ixB nm) (8 - k)
  generalize ixB nm = ix at c2 e2 ⊢
  refine z01 z0p 1 rfl Tryz.func37 rfl rfl rfl ?_
  repeat ((try conv => whnf); first | (refine ccA ([]) (c0) ?_) | (refine ccA ([]) (c2) ?_) | (refine Exists.intro _ (And.intro e1.symm ?_)) | (refine And.intro (show _ ≤ (64 : Int) from by omega) ?_) | (refine Exists.intro _ (And.intro e2.symm ?_)) | (refine stpQ ?_))
  (refine z00 (by rfl) ?_ ?_ (by rfl)) <;> repeat' (first | (exact eqA) | (refine And.intro ?_ ?_) | ((fail_if_success (with_reducible (show _ = _))); (show _ = _)))
 ·rw [z4F h] at c0
  have hr : z18 nm K = 0 := by rw [z18, if_neg h]
  rw [hr]
  refine z01 z0p 1 rfl Tryz.func37 rfl rfl rfl ?_
  repeat ((try conv => whnf); first | (refine ccA ([]) (c0) ?_) | (refine stpQ ?_))
  (refine z00 (by rfl) ?_ ?_ (by rfl)) <;> (repeat' (first | (exact eqA) | (refine And.intro ?_ ?_) | ((fail_if_success (with_reducible (show _ = _))); (show _ = _)))) <;> rfl
theorem z3q (nm : Bs) (K : Int) (hn : (nm.length : Int) ≤ 100000000) : CT Tryz.prog 9 [] [.str nm, .int .i64 K] (.int .i64 (z18 nm K : Int)) [] := by
 have c0 := z13 K 0 2
 by_cases h : 0 ≤ K ∧ K ≤ 2
 ·rw [z2q h] at c0
  obtain ⟨k, rfl⟩ : ∃ k : Nat, K = k := ⟨K.toNat, by omega⟩
  have hr : z18 nm (k : Int) = ixB nm / 2 ^ (8 - k) := by rw [z18, if_pos h, Int.toNat_natCast]
  rw [hr]
  have c2 := z1E nm hn
  have e1 : IntKind.i64.wrap (8 - (k : Int)) = ((8 - k : Nat) : Int) := by rw [wrap_i64 (by omega) (by omega)]; omega
  have e1u : IntKind.u64.wrap ((8 - k : Nat) : Int) = ((8 - k : Nat) : Int) := by
   show ((8 - k : Nat) : Int) % 18446744073709551616 = _
   omega
  have e2 := zbw (ixB nm) (8 - k)
  generalize ixB nm = ix at c2 e2 ⊢
  refine z01 z0p 1 rfl Tryz.func9 rfl rfl rfl ?_
  repeat ((try conv => whnf); first | (refine ccA ([]) (c0) ?_) | (refine ccA ([]) (c2) ?_) | (refine Exists.intro _ (And.intro e1.symm ?_)) | (refine Exists.intro _ (And.intro e1u.symm ?_)) | (refine And.intro (show _ ≤ (64 : Int) from by omega) ?_) | (refine Exists.intro _ (And.intro e2.symm ?_)) | (refine stpQ ?_))
  (refine z00 (by rfl) ?_ ?_ (by rfl)) <;> repeat' (first | (exact eqA) | (refine And.intro ?_ ?_) | ((fail_if_success (with_reducible (show _ = _))); (show _ = _)))
 ·rw [z4F h] at c0
  have hr : z18 nm K = 0 := by rw [z18, if_neg h]
  rw [hr]
  refine z01 z0p 1 rfl Tryz.func9 rfl rfl rfl ?_
  repeat ((try conv => whnf); first | (refine ccA ([]) (c0) ?_) | (refine stpQ ?_))
  (refine z00 (by rfl) ?_ ?_ (by rfl)) <;> (repeat' (first | (exact eqA) | (refine And.intro ?_ ?_) | ((fail_if_success (with_reducible (show _ = _))); (show _ = _)))) <;> rfl
theorem zfk {l : List Nat} (h : 0 < l.length) : l[l.length - 1]? = some (z3f l) := by
 rw [z3f, List.getLastD_eq_getLast?, List.getLast?_eq_getElem?]
 rw [List.getElem?_eq_getElem (by omega)]; rfl
theorem ze6 {l : List Nat} (h : 0 < l.length) : (ntE l)[l.length - 1]? = some [.int .i64 ((z3f l : Nat) : Int)] := by
 have := zfk h
 simp only [ntE, List.getElem?_map, this, Option.map_some]
theorem ze7 (a K : Int) (up : Bool) (fs : List Fl) (V : List (List T)) (s : Sv) (h : 0 < s.tk.length ∧ (s.tk.length : Int) ≤ 1000000) : CT Tryz.prog 166 [] [.agg (svE a K up fs V s)] (.int .i64 (z3f s.tk : Int)) [] := by
 obtain ⟨ep, vs, tk, al, re, rt, rk⟩ := s
 have h1 : 0 < tk.length := h.1
 have h2 : (tk.length : Int) ≤ 1000000 := h.2
 have g := ze6 h1
 have hl := z8X tk
 show CT _ _ _ _ (.int .i64 (z3f tk : Int)) _
 generalize z3f tk = x at g ⊢
 refine z01 z0p 1 rfl Tryz.func166 rfl rfl rfl ?_
 repeat ((try conv => whnf); first | (refine Exists.intro tk.length (And.intro hl ?_)) | (refine i_at g ?_) | (refine stpQ ?_))
 (refine z00 (by rfl) ?_ ?_ (by rfl)) <;> repeat' (first | (exact eqA) | (refine And.intro ?_ ?_) | ((fail_if_success (with_reducible (show _ = _))); (show _ = _)))
theorem za4 {us : List Ch} (h : ∀ u ∈ us, z0g u.1 u.2.1 u.2.2 = true) : ∀ k, z52 (chAt us k) := fun k => by
 rcases Nat.lt_or_ge k us.length with hl | hl
 ·have h1 := h _ (List.getElem_mem hl)
  rw [z9R hl]
  unfold z0g at h1
  simp only [Bool.and_eq_true, Bool.or_eq_true, decide_eq_true_eq] at h1
  have h2 := z0D h1.1.2
  refine ⟨by omega, ?_⟩
  rcases h1.2 with h3 | h3
  ·rw [List.isEmpty_iff.1 h3]; simp
  ·have := z11 h3; omega
 ·simp [chAt, List.getD, List.getElem?_eq_none hl, z52]
theorem zfl (us : List Ch) : us.foldl z3c [] = us.foldl z1L [] := zdF (by simp [z0b])
theorem ze8 (l : List Ch) (n : Nat) : (chE l).take n = chE (l.take n) := by simp [chE, List.map_take]
theorem z7Q (a K : Int) (up : Bool) (fs : List Fl) (V : List (List T)) (s : Sv) (h : s.rk ≤ s.al.length ∧ (s.al.length : Int) ≤ 1000000) (hc : ∀ u ∈ s.al, z0g u.1 u.2.1 u.2.2 = true) : CT Tryz.prog 193 [] [.agg (svE a K up fs V s)] (.ref 1) [.row 2 (lvE (z1N s))] := by
 unfold z1N
 obtain ⟨ep, vs, tk, al, re, rt, rk⟩ := s
 have h1 : rk ≤ al.length := h.1
 have h2 : (al.length : Int) ≤ 1000000 := h.2
 have hl := z0R al
 have c1 := zca [] (al.take rk) (by simp [z0b]) (by rw [List.length_take]; omega) (za4 fun u hu => hc u (List.mem_of_mem_take hu))
 rw [← ze8] at c1
 show CT _ _ _ _ _ [.row 2 (lvE ((al.take rk).foldl z1L []))]
 generalize (al.take rk).foldl z1L [] = R at c1 ⊢
 have e1 : (rk : Int) = if (al.length : Int) < (rk : Int) then (al.length : Int) else (rk : Int) := by rw [if_neg (by omega)]
 have e2 : (rk : Int) = if (rk : Int) > 0 then (rk : Int) else 0 := by split <;> omega
 have h3 : rk ≤ (chE al).length := by omega
 refine z01 z0p 1 rfl Tryz.func193 rfl rfl rfl ?_
 repeat ((try conv => whnf); first | (refine Exists.intro al.length (And.intro hl ?_)) | (refine Exists.intro _ (And.intro e1 ?_)) | (refine Exists.intro _ (And.intro e2 ?_)) | (refine i_le h3 ?_) | (refine ccA ([]) (c1) ?_) | (refine stpQ ?_))
 (refine z00 (by rfl) ?_ ?_ (by rfl)) <;> repeat' (first | (exact eqA) | (refine And.intro ?_ ?_) | ((fail_if_success (with_reducible (show _ = _))); (show _ = _)))
theorem z3E (a K : Int) (up : Bool) (fs : List Fl) (V : List (List T)) (s : Sv) (h : s.rk ≤ s.al.length ∧ (s.al.length : Int) ≤ 1000000) (hc : ∀ u ∈ s.al, z0g u.1 u.2.1 u.2.2 = true) : CT Tryz.prog 183 [] [.agg (svE a K up fs V s)] (.ref 1) [.row 2 (lvE (z1N s))] := by
 unfold z1N
 obtain ⟨ep, vs, tk, al, re, rt, rk⟩ := s
 have h1 : rk ≤ al.length := h.1
 have h2 : (al.length : Int) ≤ 1000000 := h.2
 have hl := z0R al
 have c1 := z9T [] (al.take rk) (by simp [z0b]) (by rw [List.length_take]; omega) (za4 fun u hu => hc u (List.mem_of_mem_take hu))
 rw [← ze8, zfl] at c1
 show CT _ _ _ _ _ [.row 2 (lvE ((al.take rk).foldl z1L []))]
 generalize (al.take rk).foldl z1L [] = R at c1 ⊢
 have h3 : rk ≤ (chE al).length := by omega
 have h4 : ¬ (rk : Int) > (al.length : Int) := by omega
 have h5 : ¬ (rk : Int) < 0 := by omega
 refine z01 z0p 1 rfl Tryz.func183 rfl rfl rfl ?_
 repeat ((try conv => whnf); first | (refine Exists.intro al.length (And.intro hl ?_)) | (refine i_le h3 ?_) | (refine z3N ([_]) ([]) (c1) (by ((repeat' (first | (exact trivial) | (exact rfl) | (decide) | (refine And.intro ?_ ?_))); first | done | fail)) (by ((repeat' (first | (exact trivial) | (exact rfl) | (decide) | (refine And.intro ?_ ?_))); first | done | fail)) (by decide) (by rfl) (by first | exact .inl rfl | (refine .inr ⟨?_, ?_⟩ <;> simp [own2, own1, own0, ownE])) ?_) | (refine z38 ([]) (c1) (by ((repeat' (first | (exact trivial) | (exact rfl) | (decide) | (refine And.intro ?_ ?_))); first | done | fail)) (by ((repeat' (first | (exact trivial) | (exact rfl) | (decide) | (refine And.intro ?_ ?_))); first | done | fail)) (by decide) (by rfl) (by first | exact .inl rfl | (refine .inr ⟨?_, ?_⟩ <;> simp [own2, own1, own0, ownE])) ?_) | (refine stpQ ?_))
 (refine z00 (by rfl) ?_ ?_ (by rfl)) <;> repeat' (first | (exact eqA) | (refine And.intro ?_ ?_) | ((fail_if_success (with_reducible (show _ = _))); (show _ = _)))
end Go.Proofs.YtfjbinbpgdiafaaGreatDoor
namespace Go.Proofs.YtfjbinbpgdiafaaGreatDoor
set_option maxRecDepth 100000
set_option maxHeartbeats 8000000
set_option linter.unusedVariables false
set_option linter.unusedSimpArgs false
set_option linter.unusedSectionVars false
open Go.RowKit Pl
attribute [local irreducible] z0r z0s z0z AnsP LeP
def svH (a K : Int) (up : Bool) (fs : List Fl) (V : List (List T)) (s : Sv) : Rk → List Ent
 | .no => [svB a K up fs s 2 3 4, .row 1 V, .row 1 (ntE s.tk), .row 3 (chE s.al)]
 | .all u => [svB a K up fs { s with al := s.al ++ [u] } 2 3 5, .row 1 V, .row 1 (ntE s.tk), .row 0 [], .row 3 (chE (s.al ++ [u]))]
 | .rdy e y k => [svB a K up fs { s with re := e, rt := y, rk := k } 2 3 4, .row 1 V, .row 1 (ntE s.tk), .row 3 (chE s.al)]
 | .com => [svB a K up fs (z19 s) 5 6 4, .row 0 [], .row 0 [], .row 3 (chE s.al), .row 1 (V ++ [[.sl 2 (lvE (z1N s))]]), .row 1 (ntE (s.tk ++ [s.rk]))]
theorem zfm (a K : Int) (up : Bool) (fs : List Fl) (V : List (List T)) (hV : V.length ≤ 10) (s : Sv) {n : Nat} (g : SvOk n s) (hn : n ≤ 30000) : CT Tryz.prog 167 (svH a K up fs V s .no) [.ptr 1 0 0] (.tup []) (svH a K up fs V s .com) := by
 have g1 := g.ep
 have g2 := g.vl
 have g3 := g.tl
 have g4 := g.al
 have g5 := g.rk
 have c1 := z7Q a K up fs V s ⟨g5, by omega⟩ g.ch
 unfold svH z19
 generalize z1N s = R at c1 ⊢
 clear g
 obtain ⟨ep, vs, tk, al, re, rt, rk⟩ := s
 simp only at g1 g2 g3 g4 g5 c1 ⊢
 have ht := z8X tk
 have e1 : IntKind.i64.wrap ((ep : Int) + 1) = ((ep + 1 : Nat) : Int) := by rw [wrap_i64 (by omega) (by omega)]; omega
 unfold svE at c1
 unfold svB
 simp only at c1 ⊢
 refine z01 z0p 5 rfl Tryz.func167 rfl rfl rfl ?_
 repeat ((try conv => whnf); first | (refine z2B ([]) (c1) (by ((repeat' (first | (exact trivial) | (exact rfl) | (refine And.intro ?_ ?_))); first | done | fail)) (by ((repeat' (first | (exact trivial) | (exact rfl) | (refine And.intro ?_ ?_))); first | done | fail)) (by decide) (by rfl) (by first | exact .inl rfl | (refine .inr ⟨by simp [own2, own1, own0], fun e he => ?_⟩; simp only [List.mem_cons, List.not_mem_nil, or_false] at he <;> first | exact he.elim | (subst he; exact z16 _) | (rcases he with rfl | rfl <;> exact z16 _))) ?_) | (refine Exists.intro _ (And.intro e1.symm ?_)) | (refine And.intro (by simp only [List.length_append, List.length_cons, List.length_nil, List.length_set, List.length_replicate]; omega) ?_) | (refine And.intro (by kernel_rfl) ?_) | (refine stpQ ?_))
 (refine z00 (by rfl) ?_ ?_ (by rfl)) <;> (repeat' (first | (exact eqA) | (refine And.intro ?_ ?_) | ((fail_if_success (with_reducible (show _ = _))); (show _ = _))))
 all_goals first
  | exact (zg6 tk [rk]).symm
  | rfl
theorem za5 (a K : Int) (up : Bool) (fs : List Fl) (V : List (List T)) (hV : V.length ≤ 10) (s : Sv) {n : Nat} (g : SvOk n s) (hn : n ≤ 30000) : CT Tryz.prog 157 (svH a K up fs V s .no) [.ptr 1 0 0] (.tup []) (svH a K up fs V s .com) := by
 have g1 := g.ep
 have g2 := g.vl
 have g3 := g.tl
 have g4 := g.al
 have g5 := g.rk
 have c1 := z3E a K up fs V s ⟨g5, by omega⟩ g.ch
 unfold svH z19
 generalize z1N s = R at c1 ⊢
 clear g
 obtain ⟨ep, vs, tk, al, re, rt, rk⟩ := s
 simp only at g1 g2 g3 g4 g5 c1 ⊢
 have ht := z8X tk
 have e1 : IntKind.i64.wrap ((ep : Int) + 1) = ((ep + 1 : Nat) : Int) := by rw [wrap_i64 (by omega) (by omega)]; omega
 unfold svE at c1
 unfold svB
 simp only at c1 ⊢
 refine z01 z0p 5 rfl Tryz.func157 rfl rfl rfl ?_
 repeat ((try conv => whnf); first | (refine z2B ([]) (c1) (by ((repeat' (first | (exact trivial) | (exact rfl) | (refine And.intro ?_ ?_))); first | done | fail)) (by ((repeat' (first | (exact trivial) | (exact rfl) | (refine And.intro ?_ ?_))); first | done | fail)) (by decide) (by rfl) (by first | exact .inl rfl | (refine .inr ⟨by simp [own2, own1, own0], fun e he => ?_⟩; simp only [List.mem_cons, List.not_mem_nil, or_false] at he <;> first | exact he.elim | (subst he; exact z16 _) | (rcases he with rfl | rfl <;> exact z16 _))) ?_) | (refine Exists.intro _ (And.intro e1.symm ?_)) | (refine And.intro (by simp only [List.length_append, List.length_cons, List.length_nil, List.length_set, List.length_replicate]; omega) ?_) | (refine And.intro (by kernel_rfl) ?_) | (refine stpQ ?_))
 (refine z00 (by rfl) ?_ ?_ (by rfl)) <;> (repeat' (first | (exact eqA) | (refine And.intro ?_ ?_) | ((fail_if_success (with_reducible (show _ = _))); (show _ = _))))
 all_goals first
  | exact (zg6 tk [rk]).symm
  | rfl
theorem za6 {l : List Ch} {n : Int} (h : idIx l n = none) : fcT l n = .tup [.agg [.int .i64 0, .str [], .str []], .bool false] := by rw [fcT, h]; rfl
theorem za7 {l : List Ch} {n : Int} {k : Nat} (h : idIx l n = some k) : fcT l n = .tup [.agg [.int .i64 (chAt l k).1, .str (chAt l k).2.1, .str (chAt l k).2.2], .bool true] := by rw [fcT, h]; rfl
theorem zh5 (a K : Int) (up : Bool) (fs : List Fl) (V : List (List T)) (hV : V.length ≤ 10) (s : Sv) {n : Nat} (g : SvOk n s) (hn : n ≤ 30000) (b : UInt8) (r : Bs) (hr : r.length ≤ 9000) : CT Tryz.prog 118 (svH a K up fs V s .no) [.ptr 1 0 0, .str (b :: r)] (.tup []) (svH a K up fs V s (rkOf a K s (b :: r))) := by
 have g1 := g.ep
 have g4 := g.al
 have g5 := g.rk
 have g3 := g.tl
 have g6 := g.rt
 have g7 := g.r4
 have hbl := b.toNat_lt
 have h0 : 0 < (b :: r).length := by simp
 have hl : (b :: r).length = r.length + 1 := rfl
 have hcl := z0R s.al
 by_cases k1 : b.toNat = 1
 ·have kk := k1
  have k1' : ((b.toNat : Nat) : Int) = 1 := by omega
  have c1 := z8G r (by omega)
  cases hq : z0E r with
  | none =>
    rw [hq] at c1
    have hR : rkOf a K s (b :: r) = .no := by rw [rkOf, if_pos k1, hq]
    rw [hR]
    have c2 := z4p s.al 0 (by omega)
    cases hi : idIx s.al 0 with
    | none =>
      rw [za6 hi] at c2
      unfold svH svB
      refine z01 z0p 5 rfl Tryz.func118 rfl rfl rfl ?_
      repeat ((try conv => whnf); first | (refine Exists.intro 0 (And.intro rfl (And.intro h0 ?_))) | (refine z0h k1' ?_) | (refine i_le (show 1 ≤ (b :: r).length by simp) ?_) | (refine ccA ([]) (c1) ?_) | (refine ccA ([]) (c2) ?_) | (refine And.intro (by kernel_rfl) ?_) | (refine stpQ ?_))
      (refine z00 (by rfl) ?_ ?_ (by rfl)) <;> (repeat' (first | (exact eqA) | (refine And.intro ?_ ?_) | ((fail_if_success (with_reducible (show _ = _))); (show _ = _))))
    | some k =>
      rw [za7 hi] at c2
      unfold svH svB
      refine z01 z0p 5 rfl Tryz.func118 rfl rfl rfl ?_
      repeat ((try conv => whnf); first | (refine Exists.intro 0 (And.intro rfl (And.intro h0 ?_))) | (refine z0h k1' ?_) | (refine i_le (show 1 ≤ (b :: r).length by simp) ?_) | (refine ccA ([]) (c1) ?_) | (refine ccA ([]) (c2) ?_) | (refine And.intro (by kernel_rfl) ?_) | (refine stpQ ?_))
      (refine z00 (by rfl) ?_ ?_ (by rfl)) <;> (repeat' (first | (exact eqA) | (refine And.intro ?_ ?_) | ((fail_if_success (with_reducible (show _ = _))); (show _ = _))))
  | some y =>
    obtain ⟨id, nm, v⟩ := y
    rw [hq] at c1
    have hch := z3B hq
    have hfit := zgT hq
    have c2 := z4p s.al (id : Int) (by omega)
    have c3 := z6c nm K (by have := z0D (by unfold z0g at hch; simp only [Bool.and_eq_true] at hch; exact hch.1.2); omega)
    by_cases hsh : ((z18 nm K : Nat) : Int) = a
    ·cases hi : idIx s.al (id : Int) with
     | none =>
       rw [za6 hi] at c2
       have hR : rkOf a K s (b :: r) = .all ((id : Int), nm, v) := by rw [rkOf, if_pos k1, hq]; exact if_pos ⟨hsh, hi⟩
       rw [hR]
       generalize z18 nm K = sh at c3 hsh
       unfold svH svB
       refine z01 z0p 5 rfl Tryz.func118 rfl rfl rfl ?_
       repeat ((try conv => whnf); first | (refine Exists.intro 0 (And.intro rfl (And.intro h0 ?_))) | (refine z0h k1' ?_) | (refine i_le (show 1 ≤ (b :: r).length by simp) ?_) | (refine ccA ([]) (c1) ?_) | (refine ccA ([]) (c2) ?_) | (refine ccA ([]) (c3) ?_) | (refine z0h hsh ?_) | (refine And.intro (by simp only [List.length_append, List.length_cons, List.length_nil, List.length_set, List.length_replicate]; omega) ?_) | (refine And.intro (by kernel_rfl) ?_) | (refine stpQ ?_))
       (refine z00 (by rfl) ?_ ?_ (by rfl)) <;> (repeat' (first | (exact eqA) | (refine And.intro ?_ ?_) | ((fail_if_success (with_reducible (show _ = _))); (show _ = _))))
       all_goals first
        | exact (ze5 s.al [((id : Int), nm, v)]).symm
        | rfl
     | some k =>
       rw [za7 hi] at c2
       have hR : rkOf a K s (b :: r) = .no := by rw [rkOf, if_pos k1, hq]; exact if_neg (fun c => by rw [hi] at c; cases c.2)
       rw [hR]
       generalize z18 nm K = sh at c3 hsh
       unfold svH svB
       refine z01 z0p 5 rfl Tryz.func118 rfl rfl rfl ?_
       repeat ((try conv => whnf); first | (refine Exists.intro 0 (And.intro rfl (And.intro h0 ?_))) | (refine z0h k1' ?_) | (refine i_le (show 1 ≤ (b :: r).length by simp) ?_) | (refine ccA ([]) (c1) ?_) | (refine ccA ([]) (c2) ?_) | (refine ccA ([]) (c3) ?_) | (refine z0h hsh ?_) | (refine And.intro (by kernel_rfl) ?_) | (refine stpQ ?_))
       (refine z00 (by rfl) ?_ ?_ (by rfl)) <;> (repeat' (first | (exact eqA) | (refine And.intro ?_ ?_) | ((fail_if_success (with_reducible (show _ = _))); (show _ = _))))
    ·have hR : rkOf a K s (b :: r) = .no := by rw [rkOf, if_pos k1, hq]; exact if_neg (fun c => hsh c.1)
     rw [hR]
     generalize z18 nm K = sh at c3 hsh
     cases hi : idIx s.al (id : Int) with
     | none =>
       rw [za6 hi] at c2
       unfold svH svB
       refine z01 z0p 5 rfl Tryz.func118 rfl rfl rfl ?_
       repeat ((try conv => whnf); first | (refine Exists.intro 0 (And.intro rfl (And.intro h0 ?_))) | (refine z0h k1' ?_) | (refine i_le (show 1 ≤ (b :: r).length by simp) ?_) | (refine ccA ([]) (c1) ?_) | (refine ccA ([]) (c2) ?_) | (refine ccA ([]) (c3) ?_) | (refine z0c hsh ?_) | (refine And.intro (by kernel_rfl) ?_) | (refine stpQ ?_))
       (refine z00 (by rfl) ?_ ?_ (by rfl)) <;> (repeat' (first | (exact eqA) | (refine And.intro ?_ ?_) | ((fail_if_success (with_reducible (show _ = _))); (show _ = _))))
     | some k =>
       rw [za7 hi] at c2
       unfold svH svB
       refine z01 z0p 5 rfl Tryz.func118 rfl rfl rfl ?_
       repeat ((try conv => whnf); first | (refine Exists.intro 0 (And.intro rfl (And.intro h0 ?_))) | (refine z0h k1' ?_) | (refine i_le (show 1 ≤ (b :: r).length by simp) ?_) | (refine ccA ([]) (c1) ?_) | (refine ccA ([]) (c2) ?_) | (refine ccA ([]) (c3) ?_) | (refine z0c hsh ?_) | (refine And.intro (by kernel_rfl) ?_) | (refine stpQ ?_))
       (refine z00 (by rfl) ?_ ?_ (by rfl)) <;> (repeat' (first | (exact eqA) | (refine And.intro ?_ ?_) | ((fail_if_success (with_reducible (show _ = _))); (show _ = _))))
 ·rw [rkOf, if_neg k1]
  have k1' : ¬ ((b.toNat : Nat) : Int) = 1 := by omega
  have d1 : CT Tryz.prog 85 [fldB (b :: r) 1 false] [.ptr 1 0 0] (.int .i64 ((num1 (b :: r)).1 : Int)) [fldB (b :: r) (num1 (b :: r)).2.1 (num1 (b :: r)).2.2] := zgP (b :: r) 1 false (by omega) (by omega)
  have l1 : (num1 (b :: r)).2.1 ≤ (b :: r).length ∧ (num1 (b :: r)).1 ≤ 1000000000 := z55 (by omega)
  have d2 : CT Tryz.prog 85 [fldB (b :: r) (num1 (b :: r)).2.1 (num1 (b :: r)).2.2] [.ptr 1 0 0] (.int .i64 ((num2 (b :: r)).1 : Int)) [fldB (b :: r) (num2 (b :: r)).2.1 (num2 (b :: r)).2.2] := zgP (b :: r) _ _ (by omega) l1.1
  have l2 : (num2 (b :: r)).2.1 ≤ (b :: r).length ∧ (num2 (b :: r)).1 ≤ 1000000000 := z55 l1.1
  have d3 : CT Tryz.prog 85 [fldB (b :: r) (num2 (b :: r)).2.1 (num2 (b :: r)).2.2] [.ptr 1 0 0] (.int .i64 ((num3 (b :: r)).1 : Int)) [fldB (b :: r) (num3 (b :: r)).2.1 (num3 (b :: r)).2.2] := zgP (b :: r) _ _ (by omega) l2.1
  have l3 : (num3 (b :: r)).2.1 ≤ (b :: r).length ∧ (num3 (b :: r)).1 ≤ 1000000000 := z55 l2.1
  have f1 := zdz (b :: r) (num1 (b :: r)).2.1 (num1 (b :: r)).2.2
  have f2 := zdz (b :: r) (num2 (b :: r)).2.1 (num2 (b :: r)).2.2
  have f3 := zdz (b :: r) (num3 (b :: r)).2.1 (num3 (b :: r)).2.2
  rw [hl] at f1 f2 f3
  generalize num1 (b :: r) = A at d1 d2 l1 f1 ⊢
  generalize num2 (b :: r) = B at d2 d3 l2 f2 ⊢
  generalize num3 (b :: r) = C at d3 l3 f3 ⊢
  obtain ⟨A1, A2, A3⟩ := A
  obtain ⟨B1, B2, B3⟩ := B
  obtain ⟨C1, C2, C3⟩ := C
  simp only at d1 d2 d3 l1 l2 l3 f1 f2 f3 ⊢
  unfold fldB at d1 d2 d3 f1 f2 f3
  generalize z2d A3 A2 (r.length + 1) = D1 at f1 ⊢
  generalize z2d B3 B2 (r.length + 1) = D2 at f2 ⊢
  generalize z2d C3 C2 (r.length + 1) = D3 at f3 ⊢
  have e1 : IntKind.i64.wrap ((s.ep : Int) + 1) = ((s.ep + 1 : Nat) : Int) := by rw [wrap_i64 (by omega) (by omega)]; omega
  by_cases k2 : b.toNat = 2
  ·rw [if_pos k2]
   have k2' : ((b.toNat : Nat) : Int) = 2 := by omega
   have t1 := ze7 a K up fs V s ⟨by omega, by omega⟩
   have t2 := c_in (C1 : Int) (z3f s.tk : Int) (s.al.length : Int)
   by_cases hc : D3 = true ∧ A1 = s.ep + 1 ∧ A1 ≤ 4 ∧ s.rt < B1 ∧ B1 ≤ 1000 ∧ z3f s.tk ≤ C1 ∧ C1 ≤ s.al.length
   ·rw [if_pos hc]
    obtain ⟨hD, h1, h2, h3, h4, h5, h6⟩ := hc
    subst hD
    rw [z2q ⟨by omega, by omega⟩] at t2
    have h1' : (A1 : Int) = ((s.ep + 1 : Nat) : Int) := by omega
    have h2' : (A1 : Int) ≤ 4 := by omega
    have h3' : (B1 : Int) > (s.rt : Int) := by omega
    have h4' : (B1 : Int) ≤ 1000 := by omega
    generalize z3f s.tk = lt at t1 t2
    unfold svE at t1
    unfold svH svB
    refine z01 z0p 5 rfl Tryz.func118 rfl rfl rfl ?_
    repeat ((try conv => whnf); first | (refine Exists.intro 0 (And.intro rfl (And.intro h0 ?_))) | (refine z0c k1' ?_) | (refine z0h k2' ?_) | (refine Exists.intro _ (And.intro e1.symm ?_)) | (refine Exists.intro s.al.length (And.intro hcl ?_)) | (refine ccB ([_]) (d1) ?_) | (refine ccB ([_]) (d2) ?_) | (refine ccB ([_]) (d3) ?_) | (refine ccB ([_]) (f3) ?_) | (refine ccA ([]) (t1) ?_) | (refine ccA ([]) (t2) ?_) | (refine z0h h1' ?_) | (refine z0h h2' ?_) | (refine z0h h3' ?_) | (refine z0h h4' ?_) | (refine And.intro (by kernel_rfl) ?_) | (refine stpQ ?_))
    (refine z00 (by rfl) ?_ ?_ (by rfl)) <;> (repeat' (first | (exact eqA) | (refine And.intro ?_ ?_) | ((fail_if_success (with_reducible (show _ = _))); (show _ = _))))
   ·rw [if_neg hc]
    generalize z3f s.tk = lt at t1 t2 hc
    unfold svE at t1
    unfold svH svB
    refine z01 z0p 5 rfl Tryz.func118 rfl rfl rfl ?_
    repeat' (first | ((try conv => whnf); first | (refine Exists.intro 0 (And.intro rfl (And.intro h0 ?_))) | (refine z0c k1' ?_) | (refine z0h k2' ?_) | (refine Exists.intro _ (And.intro e1.symm ?_)) | (refine Exists.intro s.al.length (And.intro hcl ?_)) | (refine ccB ([_]) (d1) ?_) | (refine ccB ([_]) (d2) ?_) | (refine ccB ([_]) (d3) ?_) | (refine ccB ([_]) (f3) ?_) | (refine ccA ([]) (t1) ?_) | (refine ccA ([]) (t2) ?_) | (refine And.intro (by kernel_rfl) ?_) | (refine stpQ ?_)) | ((try conv => whnf); first | (refine cb_d (fun h => ?_) (fun h => ?_)) | (refine cb_n (fun h => ?_) (fun h => ?_)) | (refine cb (fun h => ?_) (fun h => ?_))))
    all_goals first
     | (exfalso
        rename_i q1 q2 q3 q4 q5
        have q7 := z0W.1 h
        exact hc ⟨q1, by omega, by omega, by omega, by omega, by omega, by omega⟩)
     | ((refine z00 (by rfl) ?_ ?_ (by rfl)) <;> (repeat' (first | (exact eqA) | (refine And.intro ?_ ?_) | ((fail_if_success (with_reducible (show _ = _))); (show _ = _)))))
  ·rw [if_neg k2]
   have k2' : ¬ ((b.toNat : Nat) : Int) = 2 := by omega
   by_cases k3 : b.toNat = 3
   ·rw [if_pos k3]
    have k3' : ((b.toNat : Nat) : Int) = 3 := by omega
    by_cases hc : D1 = true ∧ A1 = s.re ∧ A1 ≠ 0
    ·rw [if_pos hc]
     obtain ⟨hD, h1, h2⟩ := hc
     subst hD
     have h1' : (A1 : Int) = (s.re : Int) := by omega
     have h2' : ¬ (A1 : Int) = 0 := by omega
     have cC := zfm a K up fs V hV s g hn
     unfold svH svB at cC ⊢
     refine z01 z0p 5 rfl Tryz.func118 rfl rfl rfl ?_
     repeat ((try conv => whnf); first | (refine Exists.intro 0 (And.intro rfl (And.intro h0 ?_))) | (refine z0c k1' ?_) | (refine z0c k2' ?_) | (refine z0h k3' ?_) | (refine ccB ([_]) (d1) ?_) | (refine ccB ([_]) (f1) ?_) | (refine z0h h1' ?_) | (refine z2M h2' ?_) | (refine ccB ([1, 2, 3, 4]) (cC) ?_) | (refine And.intro (by kernel_rfl) ?_) | (refine stpQ ?_))
     (refine z00 (by rfl) ?_ ?_ (by rfl)) <;> (repeat' (first | (exact eqA) | (refine And.intro ?_ ?_) | ((fail_if_success (with_reducible (show _ = _))); (show _ = _))))
    ·rw [if_neg hc]
     unfold svH svB
     refine z01 z0p 5 rfl Tryz.func118 rfl rfl rfl ?_
     repeat' (first | ((try conv => whnf); first | (refine Exists.intro 0 (And.intro rfl (And.intro h0 ?_))) | (refine z0c k1' ?_) | (refine z0c k2' ?_) | (refine z0h k3' ?_) | (refine ccB ([_]) (d1) ?_) | (refine ccB ([_]) (f1) ?_) | (refine And.intro (by kernel_rfl) ?_) | (refine stpQ ?_)) | ((try conv => whnf); first | (refine cb_d (fun h => ?_) (fun h => ?_)) | (refine cb_n (fun h => ?_) (fun h => ?_)) | (refine cb (fun h => ?_) (fun h => ?_))))
     all_goals first
      | (exfalso
         rename_i q1 q2
         exact hc ⟨q1, by omega, by omega⟩)
      | ((refine z00 (by rfl) ?_ ?_ (by rfl)) <;> (repeat' (first | (exact eqA) | (refine And.intro ?_ ?_) | ((fail_if_success (with_reducible (show _ = _))); (show _ = _)))))
   ·rw [if_neg k3]
    have k3' : ¬ ((b.toNat : Nat) : Int) = 3 := by omega
    by_cases k4 : b.toNat = 4
    ·rw [if_pos k4]
     have k4' : ((b.toNat : Nat) : Int) = 4 := by omega
     by_cases hc : D2 = true ∧ A1 = s.re ∧ B1 = s.rt ∧ A1 ≠ 0
     ·rw [if_pos hc]
      obtain ⟨hD, h1, h2, h3⟩ := hc
      subst hD
      have h1' : (A1 : Int) = (s.re : Int) := by omega
      have h2' : (B1 : Int) = (s.rt : Int) := by omega
      have h3' : ¬ (A1 : Int) = 0 := by omega
      unfold svH svB
      refine z01 z0p 5 rfl Tryz.func118 rfl rfl rfl ?_
      repeat ((try conv => whnf); first | (refine Exists.intro 0 (And.intro rfl (And.intro h0 ?_))) | (refine z0c k1' ?_) | (refine z0c k2' ?_) | (refine z0c k3' ?_) | (refine z0h k4' ?_) | (refine ccB ([_]) (d1) ?_) | (refine ccB ([_]) (d2) ?_) | (refine ccB ([_]) (f2) ?_) | (refine z0h h1' ?_) | (refine z0h h2' ?_) | (refine z2M h3' ?_) | (refine And.intro (by kernel_rfl) ?_) | (refine stpQ ?_))
      (refine z00 (by rfl) ?_ ?_ (by rfl)) <;> (repeat' (first | (exact eqA) | (refine And.intro ?_ ?_) | ((fail_if_success (with_reducible (show _ = _))); (show _ = _)))) <;> rfl
     ·rw [if_neg hc]
      unfold svH svB
      refine z01 z0p 5 rfl Tryz.func118 rfl rfl rfl ?_
      repeat' (first | ((try conv => whnf); first | (refine Exists.intro 0 (And.intro rfl (And.intro h0 ?_))) | (refine z0c k1' ?_) | (refine z0c k2' ?_) | (refine z0c k3' ?_) | (refine z0h k4' ?_) | (refine ccB ([_]) (d1) ?_) | (refine ccB ([_]) (d2) ?_) | (refine ccB ([_]) (f2) ?_) | (refine And.intro (by kernel_rfl) ?_) | (refine stpQ ?_)) | ((try conv => whnf); first | (refine cb_d (fun h => ?_) (fun h => ?_)) | (refine cb_n (fun h => ?_) (fun h => ?_)) | (refine cb (fun h => ?_) (fun h => ?_))))
      all_goals first
       | (exfalso
          rename_i q1 q2 q3
          exact hc ⟨q1, by omega, by omega, by omega⟩)
       | ((refine z00 (by rfl) ?_ ?_ (by rfl)) <;> (repeat' (first | (exact eqA) | (refine And.intro ?_ ?_) | ((fail_if_success (with_reducible (show _ = _))); (show _ = _)))))
    ·rw [if_neg k4]
     have k4' : ¬ ((b.toNat : Nat) : Int) = 4 := by omega
     unfold svH svB
     refine z01 z0p 5 rfl Tryz.func118 rfl rfl rfl ?_
     repeat ((try conv => whnf); first | (refine Exists.intro 0 (And.intro rfl (And.intro h0 ?_))) | (refine z0c k1' ?_) | (refine z0c k2' ?_) | (refine z0c k3' ?_) | (refine z0c k4' ?_) | (refine ccB ([_]) (d1) ?_) | (refine And.intro (by kernel_rfl) ?_) | (refine stpQ ?_))
     (refine z00 (by rfl) ?_ ?_ (by rfl)) <;> (repeat' (first | (exact eqA) | (refine And.intro ?_ ?_) | ((fail_if_success (with_reducible (show _ = _))); (show _ = _))))
end Go.Proofs.YtfjbinbpgdiafaaGreatDoor
