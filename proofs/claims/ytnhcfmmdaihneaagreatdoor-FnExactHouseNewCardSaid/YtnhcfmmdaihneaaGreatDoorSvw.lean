/- Functions by content: shards, what they make of a record. Functions by content: a shard commits, applies a record, is made from its disk. -/
import Derived.Test.YtnhcfmmdaihneaaGreatDoorLgu
import Derived.Test.YtnhcfmmdaihneaaGreatDoorCap
import Derived.Test.YtnhcfmmdaihneaaGreatDoorHb
namespace Go.Proofs.YtnhcfmmdaihneaaGreatDoor
set_option maxRecDepth 100000
set_option maxHeartbeats 2000000
set_option linter.unusedVariables false
set_option linter.unusedSimpArgs false
set_option linter.unusedSectionVars false
open Go.RowKit Pl
attribute [local irreducible] z0w z0x z0A AnsP LeP
def vwE (l : List (List Lf)) : List (List T) := l.map fun v => [.sl 2 (lvE v)]
def ntE (l : List Nat) : List (List T) := l.map fun n : Nat => [.int .i64 (n : Int)]
theorem vw_len (l : List (List Lf)) : (vwE l).length = l.length := by simp [vwE]
theorem zdF (l : List Nat) : (ntE l).length = l.length := by simp [ntE]
theorem zjQ (a b : List Nat) : ntE (a ++ b) = ntE a ++ ntE b := by simp [ntE]
theorem zjR (a b : List Ch) : chE (a ++ b) = chE a ++ chE b := by simp [chE]
def svE (a K : Int) (up : Bool) (fs : List Fl) (V : List (List T)) (s : Sv) : List T := [.int .i64 a, .int .i64 K, .bool up, .sl 3 (flE fs), .int .i64 (s.ep : Int), .sl 1 V, .sl 1 (ntE s.tk), .sl 3 (chE s.al), .int .i64 (s.re : Int), .int .i64 (s.rt : Int), .int .i64 (s.rk : Int)]
def svB (a K : Int) (up : Bool) (fs : List Fl) (s : Sv) (v k l : Nat) : Ent := .box [.int .i64 a, .int .i64 K, .bool up, .sl 3 (flE fs), .int .i64 (s.ep : Int), .ref v, .ref k, .ref l, .int .i64 (s.re : Int), .int .i64 (s.rt : Int), .int .i64 (s.rk : Int)]
theorem zeM (n : Int) : CT Tryz.prog 88 [] [.int .i64 n] (.bool (inB n 0 2)) [] := by
 have c1 := c_in n 0 2
 generalize inB n 0 2 = b at c1 ⊢
 refine z01 z03 1 rfl Tryz.func88 rfl rfl rfl ?_
 repeat ((try conv => whnf); first | (refine ccA ([]) (c1) ?_) | (refine stpQ ?_))
 (refine z00 (by rfl) ?_ ?_ (by rfl)) <;> (repeat' (first | (exact eqA) | (refine And.intro ?_ ?_) | ((fail_if_success (with_reducible (show _ = _))); (show _ = _))))
theorem zaI {l : List Ch} {n : Int} {k : Nat} (h : k < l.length) (hx : ∀ j, j < k → (chAt l j).1 ≠ n) (he : (chAt l k).1 = n) : idIx l n = some k := by
 rw [idIx, List.findIdx?_eq_some_iff_getElem]
 refine ⟨h, by rw [← zeD h, he]; simp, fun j hj => ?_⟩
 have := hx j hj
 rw [zeD (by omega)] at this
 simpa using this
theorem zaJ {l : List Ch} {n : Int} (hx : ∀ j, j < l.length → (chAt l j).1 ≠ n) : idIx l n = none := by
 rw [idIx, List.findIdx?_eq_none_iff]
 intro x hm
 obtain ⟨j, hj, rfl⟩ := List.getElem_of_mem hm
 have := hx j hj
 rw [zeD hj] at this
 simpa using this
theorem ziS (l : List Ch) (n : Int) (hl : (l.length : Int) ≤ 100000000) : CT Tryz.prog 203 [] [.sl 3 (chE l), .int .i64 n] (.int .i64 (ixI (idIx l n))) [] := by
 have hlen := z65 l
 refine z01 z03 1 rfl Tryz.func203 rfl rfl rfl ?_
 repeat ((try conv => whnf); first | (refine stpQ ?_))
 refine z0H Nat (fun k => ⟨[(0, .sl 3 (chE l)), (1, .int .i64 n), (5, .int .i64 (k : Int))], [], 1⟩) (fun k => k ≤ l.length ∧ ∀ j, j < k → (chAt l j).1 ≠ n) (fun k => l.length - k) 0 ⟨by omega, fun j hj => by omega⟩ ?_ ?_
 ·(refine z02 (by rfl) ?_ ?_) <;> repeat' (first | (exact eqA) | (refine And.intro ?_ ?_) | ((fail_if_success (with_reducible (show _ = _))); (show _ = _)))
 ·intro k hx
  have hk : k ≤ l.length := hx.1
  have hp : ∀ j, j < k → (chAt l j).1 ≠ n := hx.2
  clear hx
  by_cases hlt : k < l.length
  ·have hlt2 : (k : Int) < ((chE l).length : Int) := by omega
   by_cases he : (chAt l k).1 = n
   ·rw [zaI hlt hp he]
    repeat ((try conv => whnf); first | (refine i_at (z8n hlt) ?_) | (refine z0o he ?_) | (refine stpQ ?_))
    (refine z00 (by rfl) ?_ ?_ (by rfl)) <;> (repeat' (first | (exact eqA) | (refine And.intro ?_ ?_) | ((fail_if_success (with_reducible (show _ = _))); (show _ = _)))) <;> rfl
   ·repeat ((try conv => whnf); first | (refine i_at (z8n hlt) ?_) | (refine z0j he ?_) | (refine stpQ ?_))
    refine ⟨k + 1, ⟨by omega, fun j hj => ?_⟩, by omega, ?_⟩
    ·by_cases hjk : j = k
     ·subst hjk; exact he
     ·exact hp j (by omega)
    ·(refine z02 (by rfl) ?_ ?_) <;> repeat' (first | (exact eqA) | (refine And.intro ?_ ?_) | ((fail_if_success (with_reducible (show _ = _))); (show _ = _)))
  ·rw [zaJ (fun j hj => hp j (by omega))]
   repeat ((try conv => whnf); first | (refine stpQ ?_))
   (refine z00 (by rfl) ?_ ?_ (by rfl)) <;> (repeat' (first | (exact eqA) | (refine And.intro ?_ ?_) | ((fail_if_success (with_reducible (show _ = _))); (show _ = _)))) <;> rfl
def fcT (l : List Ch) (n : Int) : T := match idIx l n with
 | some k => .tup [.agg (chL (chAt l k)), .bool true]
 | none => .tup [.agg (chL (0, [], [])), .bool false]
theorem z5d (l : List Ch) (n : Int) (hl : (l.length : Int) ≤ 100000000) : CT Tryz.prog 207 [] [.sl 3 (chE l), .int .i64 n] (fcT l n) [] := by
 have hlen := z65 l
 unfold fcT
 refine z01 z03 1 rfl Tryz.func207 rfl rfl rfl ?_
 repeat ((try conv => whnf); first | (refine stpQ ?_))
 refine z0H Nat (fun k => ⟨[(1, .int .i64 n), (4, .ptr 1 0 0), (8, .sl 3 (chE l)), (9, .int .i64 ((chE l).length : Int)), (10, .int .i64 (k : Int))], [(1, some (.box (chL (0, [], []))))], 2⟩) (fun k => k ≤ l.length ∧ ∀ j, j < k → (chAt l j).1 ≠ n) (fun k => l.length - k) 0 ⟨by omega, fun j hj => by omega⟩ ?_ ?_
 ·(refine z02 (by rfl) ?_ ?_) <;> (repeat' (first | (exact eqA) | (refine And.intro ?_ ?_) | ((fail_if_success (with_reducible (show _ = _))); (show _ = _)))) <;> first | rfl | decide
 ·intro k hx
  have hk : k ≤ l.length := hx.1
  have hp : ∀ j, j < k → (chAt l j).1 ≠ n := hx.2
  clear hx
  by_cases hlt : k < l.length
  ·have hlt2 : (k : Int) < ((chE l).length : Int) := by omega
   by_cases he : (chAt l k).1 = n
   ·rw [zaI hlt hp he]
    repeat ((try conv => whnf); first | (refine i_at (z8n hlt) ?_) | (refine z0o he ?_) | (refine stpQ ?_))
    (refine z00 (by rfl) ?_ ?_ (by rfl)) <;> (repeat' (first | (exact eqA) | (refine And.intro ?_ ?_) | ((fail_if_success (with_reducible (show _ = _))); (show _ = _)))) <;> rfl
   ·repeat ((try conv => whnf); first | (refine i_at (z8n hlt) ?_) | (refine z0j he ?_) | (refine stpQ ?_))
    refine ⟨k + 1, ⟨by omega, fun j hj => ?_⟩, by omega, ?_⟩
    ·by_cases hjk : j = k
     ·subst hjk; exact he
     ·exact hp j (by omega)
    ·(refine z02 (by rfl) ?_ ?_) <;> (repeat' (first | (exact eqA) | (refine And.intro ?_ ?_) | ((fail_if_success (with_reducible (show _ = _))); (show _ = _)))) <;> first | rfl | decide
  ·rw [zaJ (fun j hj => hp j (by omega))]
   repeat ((try conv => whnf); first | (refine stpQ ?_))
   (refine z00 (by rfl) ?_ ?_ (by rfl)) <;> (repeat' (first | (exact eqA) | (refine And.intro ?_ ?_) | ((fail_if_success (with_reducible (show _ = _))); (show _ = _)))) <;> rfl
theorem zdG (a d : Nat) : ((a : Nat) : Int) / 2 ^ ((d : Nat) : Int).toNat = ((a / 2 ^ d : Nat) : Int) := by rw [Int.toNat_natCast]; simp
theorem zgN (nm : Bs) (K : Int) (hn : (nm.length : Int) ≤ 100000000) : CT Tryz.prog 208 [] [.str nm, .int .i64 K] (.int .i64 (z1X nm K : Int)) [] := by
 have c1 := c_in K 0 2
 have c0 := zeM K
 by_cases h : 0 ≤ K ∧ K ≤ 2
 ·rw [z5c h] at c0
  obtain ⟨k, rfl⟩ : ∃ k : Nat, K = k := ⟨K.toNat, by omega⟩
  have hr : z1X nm (k : Int) = ixB nm / 2 ^ (8 - k) := by rw [z1X, if_pos h, Int.toNat_natCast]
  rw [hr]
  have c2 := zgM nm hn
  have e1 : IntKind.i64.wrap (8 - (k : Int)) = ((8 - k : Nat) : Int) := by rw [z0J (by omega) (by omega)]; omega
  have e2 := zdG (ixB nm) (8 - k)
  generalize ixB nm = ix at c2 e2 ⊢
  refine z01 z03 1 rfl Tryz.func208 rfl rfl rfl ?_
  repeat ((try conv => whnf); first | (refine ccA ([]) (c0) ?_) | (refine ccA ([]) (c2) ?_) | (refine Exists.intro _ (And.intro e1.symm ?_)) | (refine And.intro (show _ ≤ (64 : Int) from by omega) ?_) | (refine Exists.intro _ (And.intro e2.symm ?_)) | (refine stpQ ?_))
  (refine z00 (by rfl) ?_ ?_ (by rfl)) <;> repeat' (first | (exact eqA) | (refine And.intro ?_ ?_) | ((fail_if_success (with_reducible (show _ = _))); (show _ = _)))
 ·rw [zc0 h] at c0
  have hr : z1X nm K = 0 := by rw [z1X, if_neg h]
  rw [hr]
  refine z01 z03 1 rfl Tryz.func208 rfl rfl rfl ?_
  repeat ((try conv => whnf); first | (refine ccA ([]) (c0) ?_) | (refine stpQ ?_))
  (refine z00 (by rfl) ?_ ?_ (by rfl)) <;> (repeat' (first | (exact eqA) | (refine And.intro ?_ ?_) | ((fail_if_success (with_reducible (show _ = _))); (show _ = _)))) <;> rfl
theorem zeN (nm : Bs) (K : Int) (hn : (nm.length : Int) ≤ 100000000) : CT Tryz.prog 202 [] [.str nm, .int .i64 K] (.int .i64 (z1X nm K : Int)) [] := by
 have c0 := z1B K 0 2
 by_cases h : 0 ≤ K ∧ K ≤ 2
 ·rw [z5c h] at c0
  obtain ⟨k, rfl⟩ : ∃ k : Nat, K = k := ⟨K.toNat, by omega⟩
  have hr : z1X nm (k : Int) = ixB nm / 2 ^ (8 - k) := by rw [z1X, if_pos h, Int.toNat_natCast]
  rw [hr]
  have c2 := zeL nm hn
  have e1 : IntKind.i64.wrap (8 - (k : Int)) = ((8 - k : Nat) : Int) := by rw [z0J (by omega) (by omega)]; omega
  have e1u : IntKind.u64.wrap ((8 - k : Nat) : Int) = ((8 - k : Nat) : Int) := by
   show ((8 - k : Nat) : Int) % 18446744073709551616 = _
   omega
  have e2 := zdG (ixB nm) (8 - k)
  generalize ixB nm = ix at c2 e2 ⊢
  refine z01 z03 1 rfl Tryz.func202 rfl rfl rfl ?_
  repeat ((try conv => whnf); first | (refine ccA ([]) (c0) ?_) | (refine ccA ([]) (c2) ?_) | (refine Exists.intro _ (And.intro e1.symm ?_)) | (refine Exists.intro _ (And.intro e1u.symm ?_)) | (refine And.intro (show _ ≤ (64 : Int) from by omega) ?_) | (refine Exists.intro _ (And.intro e2.symm ?_)) | (refine stpQ ?_))
  (refine z00 (by rfl) ?_ ?_ (by rfl)) <;> repeat' (first | (exact eqA) | (refine And.intro ?_ ?_) | ((fail_if_success (with_reducible (show _ = _))); (show _ = _)))
 ·rw [zc0 h] at c0
  have hr : z1X nm K = 0 := by rw [z1X, if_neg h]
  rw [hr]
  refine z01 z03 1 rfl Tryz.func202 rfl rfl rfl ?_
  repeat ((try conv => whnf); first | (refine ccA ([]) (c0) ?_) | (refine stpQ ?_))
  (refine z00 (by rfl) ?_ ?_ (by rfl)) <;> (repeat' (first | (exact eqA) | (refine And.intro ?_ ?_) | ((fail_if_success (with_reducible (show _ = _))); (show _ = _)))) <;> rfl
theorem ziT {l : List Nat} (h : 0 < l.length) : l[l.length - 1]? = some (z3G l) := by
 rw [z3G, List.getLastD_eq_getLast?, List.getLast?_eq_getElem?]
 rw [List.getElem?_eq_getElem (by omega)]; rfl
theorem zgO {l : List Nat} (h : 0 < l.length) : (ntE l)[l.length - 1]? = some [.int .i64 ((z3G l : Nat) : Int)] := by
 have := ziT h
 simp only [ntE, List.getElem?_map, this, Option.map_some]
theorem zgP (a K : Int) (up : Bool) (fs : List Fl) (V : List (List T)) (s : Sv) (h : 0 < s.tk.length ∧ (s.tk.length : Int) ≤ 1000000) : CT Tryz.prog 209 [] [.agg (svE a K up fs V s)] (.int .i64 (z3G s.tk : Int)) [] := by
 obtain ⟨ep, vs, tk, al, re, rt, rk⟩ := s
 have h1 : 0 < tk.length := h.1
 have h2 : (tk.length : Int) ≤ 1000000 := h.2
 have g := zgO h1
 have hl := zdF tk
 show CT _ _ _ _ (.int .i64 (z3G tk : Int)) _
 generalize z3G tk = x at g ⊢
 refine z01 z03 1 rfl Tryz.func209 rfl rfl rfl ?_
 repeat ((try conv => whnf); first | (refine Exists.intro tk.length (And.intro hl ?_)) | (refine i_at g ?_) | (refine stpQ ?_))
 (refine z00 (by rfl) ?_ ?_ (by rfl)) <;> repeat' (first | (exact eqA) | (refine And.intro ?_ ?_) | ((fail_if_success (with_reducible (show _ = _))); (show _ = _)))
theorem zgQ (a K : Int) (up : Bool) (fs : List Fl) (V : List (List T)) (s : Sv) (h : 0 < s.tk.length ∧ (s.tk.length : Int) ≤ 1000000) : CT Tryz.prog 204 [] [.agg (svE a K up fs V s)] (.int .i64 (z3G s.tk : Int)) [] := by
 obtain ⟨ep, vs, tk, al, re, rt, rk⟩ := s
 have h1 : 0 < tk.length := h.1
 have h2 : (tk.length : Int) ≤ 1000000 := h.2
 have g := zgO h1
 have hl := zdF tk
 show CT _ _ _ _ (.int .i64 (z3G tk : Int)) _
 generalize z3G tk = x at g ⊢
 refine z01 z03 1 rfl Tryz.func204 rfl rfl rfl ?_
 repeat ((try conv => whnf); first | (refine Exists.intro tk.length (And.intro hl ?_)) | (refine i_at g ?_) | (refine stpQ ?_))
 (refine z00 (by rfl) ?_ ?_ (by rfl)) <;> repeat' (first | (exact eqA) | (refine And.intro ?_ ?_) | ((fail_if_success (with_reducible (show _ = _))); (show _ = _)))
theorem zgR {us : List Ch} (h : ∀ u ∈ us, z0z u.1 u.2.1 u.2.2 = true) : ∀ k, zbU (chAt us k) := fun k => by
 rcases Nat.lt_or_ge k us.length with hl | hl
 ·have h1 := h _ (List.getElem_mem hl)
  rw [zeD hl]
  unfold z0z at h1
  simp only [Bool.and_eq_true, Bool.or_eq_true, decide_eq_true_eq] at h1
  have h2 := z2C h1.1.2
  refine ⟨by omega, ?_⟩
  rcases h1.2 with h3 | h3
  ·rw [List.isEmpty_iff.1 h3]; simp
  ·have := z3r h3; omega
 ·simp [chAt, List.getD, List.getElem?_eq_none hl, zbU]
theorem ziU (us : List Ch) : us.foldl z3V [] = us.foldl z22 [] := zgs (by simp [z0k])
theorem zgS (l : List Ch) (n : Nat) : (chE l).take n = chE (l.take n) := by simp [chE, List.map_take]
theorem z9f (a K : Int) (up : Bool) (fs : List Fl) (V : List (List T)) (s : Sv) (h : s.rk ≤ s.al.length ∧ (s.al.length : Int) ≤ 1000000) (hc : ∀ u ∈ s.al, z0z u.1 u.2.1 u.2.2 = true) : CT Tryz.prog 258 [] [.agg (svE a K up fs V s)] (.ref 1) [.row 2 (lvE (z3b s))] := by
 unfold z3b
 obtain ⟨ep, vs, tk, al, re, rt, rk⟩ := s
 have h1 : rk ≤ al.length := h.1
 have h2 : (al.length : Int) ≤ 1000000 := h.2
 have hl := z65 al
 have c1 := zeE [] (al.take rk) (by simp [z0k]) (by rw [List.length_take]; omega) (zgR fun u hu => hc u (List.mem_of_mem_take hu))
 rw [← zgS] at c1
 show CT _ _ _ _ _ [.row 2 (lvE ((al.take rk).foldl z22 []))]
 generalize (al.take rk).foldl z22 [] = R at c1 ⊢
 have e1 : (rk : Int) = if (al.length : Int) < (rk : Int) then (al.length : Int) else (rk : Int) := by rw [if_neg (by omega)]
 have e2 : (rk : Int) = if (rk : Int) > 0 then (rk : Int) else 0 := by split <;> omega
 have h3 : rk ≤ (chE al).length := by omega
 refine z01 z03 1 rfl Tryz.func258 rfl rfl rfl ?_
 repeat ((try conv => whnf); first | (refine Exists.intro al.length (And.intro hl ?_)) | (refine Exists.intro _ (And.intro e1 ?_)) | (refine Exists.intro _ (And.intro e2 ?_)) | (refine i_le h3 ?_) | (refine ccA ([]) (c1) ?_) | (refine stpQ ?_))
 (refine z00 (by rfl) ?_ ?_ (by rfl)) <;> repeat' (first | (exact eqA) | (refine And.intro ?_ ?_) | ((fail_if_success (with_reducible (show _ = _))); (show _ = _)))
theorem z7W (a K : Int) (up : Bool) (fs : List Fl) (V : List (List T)) (s : Sv) (h : s.rk ≤ s.al.length ∧ (s.al.length : Int) ≤ 1000000) (hc : ∀ u ∈ s.al, z0z u.1 u.2.1 u.2.2 = true) : CT Tryz.prog 256 [] [.agg (svE a K up fs V s)] (.ref 1) [.row 2 (lvE (z3b s))] := by
 unfold z3b
 obtain ⟨ep, vs, tk, al, re, rt, rk⟩ := s
 have h1 : rk ≤ al.length := h.1
 have h2 : (al.length : Int) ≤ 1000000 := h.2
 have hl := z65 al
 have c1 := zbV [] (al.take rk) (by simp [z0k]) (by rw [List.length_take]; omega) (zgR fun u hu => hc u (List.mem_of_mem_take hu))
 rw [← zgS, ziU] at c1
 show CT _ _ _ _ _ [.row 2 (lvE ((al.take rk).foldl z22 []))]
 generalize (al.take rk).foldl z22 [] = R at c1 ⊢
 have h3 : rk ≤ (chE al).length := by omega
 have h4 : ¬ (rk : Int) > (al.length : Int) := by omega
 have h5 : ¬ (rk : Int) < 0 := by omega
 refine z01 z03 1 rfl Tryz.func256 rfl rfl rfl ?_
 repeat ((try conv => whnf); first | (refine Exists.intro al.length (And.intro hl ?_)) | (refine i_le h3 ?_) | (refine z71 ([_]) ([]) (c1) (by ((repeat' (first | (exact trivial) | (exact rfl) | (decide) | (refine And.intro ?_ ?_))); first | done | fail)) (by ((repeat' (first | (exact trivial) | (exact rfl) | (decide) | (refine And.intro ?_ ?_))); first | done | fail)) (by decide) (by rfl) (by first | exact .inl rfl | (refine .inr ⟨?_, ?_⟩ <;> simp [own2, own1, own0, ownE])) ?_) | (refine zkw ([]) (c1) (by ((repeat' (first | (exact trivial) | (exact rfl) | (decide) | (refine And.intro ?_ ?_))); first | done | fail)) (by ((repeat' (first | (exact trivial) | (exact rfl) | (decide) | (refine And.intro ?_ ?_))); first | done | fail)) (by decide) (by rfl) (by first | exact .inl rfl | (refine .inr ⟨?_, ?_⟩ <;> simp [own2, own1, own0, ownE])) ?_) | (refine stpQ ?_))
 (refine z00 (by rfl) ?_ ?_ (by rfl)) <;> repeat' (first | (exact eqA) | (refine And.intro ?_ ?_) | ((fail_if_success (with_reducible (show _ = _))); (show _ = _)))
end Go.Proofs.YtnhcfmmdaihneaaGreatDoor
namespace Go.Proofs.YtnhcfmmdaihneaaGreatDoor
set_option maxRecDepth 100000
set_option maxHeartbeats 2000000
set_option linter.unusedVariables false
set_option linter.unusedSimpArgs false
set_option linter.unusedSectionVars false
open Go.RowKit Pl
attribute [local irreducible] z0w z0x z0A AnsP LeP
def svH (a K : Int) (up : Bool) (fs : List Fl) (V : List (List T)) (s : Sv) : Rk → List Ent
 | .no => [svB a K up fs s 2 3 4, .row 1 V, .row 1 (ntE s.tk), .row 3 (chE s.al)]
 | .all u => [svB a K up fs { s with al := s.al ++ [u] } 2 3 5, .row 1 V, .row 1 (ntE s.tk), .row 0 [], .row 3 (chE (s.al ++ [u]))]
 | .rdy e y k => [svB a K up fs { s with re := e, rt := y, rk := k } 2 3 4, .row 1 V, .row 1 (ntE s.tk), .row 3 (chE s.al)]
 | .com => [svB a K up fs (z1t s) 5 6 4, .row 0 [], .row 0 [], .row 3 (chE s.al), .row 1 (V ++ [[.sl 2 (lvE (z3b s))]]), .row 1 (ntE (s.tk ++ [s.rk]))]
theorem zc1 (a K : Int) (up : Bool) (fs : List Fl) (V : List (List T)) (hV : V.length ≤ 10) (s : Sv) {n : Nat} (g : SvOk n s) (hn : n ≤ 30000) : CT Tryz.prog 205 (svH a K up fs V s .no) [.ptr 1 0 0] (.tup []) (svH a K up fs V s .com) := by
 have g1 := g.ep
 have g2 := g.vl
 have g3 := g.tl
 have g4 := g.al
 have g5 := g.rk
 have c1 := z7W a K up fs V s ⟨g5, by omega⟩ g.ch
 unfold svH z1t
 generalize z3b s = R at c1 ⊢
 clear g
 obtain ⟨ep, vs, tk, al, re, rt, rk⟩ := s
 simp only at g1 g2 g3 g4 g5 c1 ⊢
 have ht := zdF tk
 have e1 : IntKind.i64.wrap ((ep : Int) + 1) = ((ep + 1 : Nat) : Int) := by rw [z0J (by omega) (by omega)]; omega
 unfold svE at c1
 unfold svB
 simp only at c1 ⊢
 refine z01 z03 5 rfl Tryz.func205 rfl rfl rfl ?_
 repeat ((try conv => whnf); first | (refine z0N ([]) (c1) (by ((repeat' (first | (exact trivial) | (exact rfl) | (refine And.intro ?_ ?_))); first | done | fail)) (by ((repeat' (first | (exact trivial) | (exact rfl) | (refine And.intro ?_ ?_))); first | done | fail)) (by decide) (by rfl) (by first | exact .inl rfl | (refine .inr ⟨by simp [own2, own1, own0], fun e he => ?_⟩; simp only [List.mem_cons, List.not_mem_nil, or_false] at he <;> first | exact he.elim | (subst he; exact z0h _) | (rcases he with rfl | rfl <;> exact z0h _))) ?_) | (refine Exists.intro _ (And.intro e1.symm ?_)) | (refine And.intro (by simp only [List.length_append, List.length_cons, List.length_nil, List.length_set, List.length_replicate]; omega) ?_) | (refine And.intro (by kernel_rfl) ?_) | (refine stpQ ?_))
 (refine z00 (by rfl) ?_ ?_ (by rfl)) <;> (repeat' (first | (exact eqA) | (refine And.intro ?_ ?_) | ((fail_if_success (with_reducible (show _ = _))); (show _ = _))))
 all_goals first
  | exact (zjQ tk [rk]).symm
  | rfl
theorem zc2 {l : List Ch} {n : Int} (h : idIx l n = none) : fcT l n = .tup [.agg [.int .i64 0, .str [], .str []], .bool false] := by rw [fcT, h]; rfl
theorem zc3 {l : List Ch} {n : Int} {k : Nat} (h : idIx l n = some k) : fcT l n = .tup [.agg [.int .i64 (chAt l k).1, .str (chAt l k).2.1, .str (chAt l k).2.2], .bool true] := by rw [fcT, h]; rfl
end Go.Proofs.YtnhcfmmdaihneaaGreatDoor
