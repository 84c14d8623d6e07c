/- Functions by content: the reference writes records into logs, by the log's size. Functions by content: the coordinator of the reference writes, begins, gives up. Functions by content: a coordinator by its fields. Functions by content: the coordinator of the reference closes an epoch, hears a letter. -/
import Derived.Test.YtkjjacndfieeoaaGreatDoorDk
import Derived.Test.YtkjjacndfieeoaaGreatDoorPlx
import Derived.Test.YtkjjacndfieeoaaGreatDoorCbx
import Derived.Test.YtkjjacndfieeoaaGreatDoorTyL
import Derived.Test.YtkjjacndfieeoaaGreatDoorFb
import Derived.Test.YtkjjacndfieeoaaGreatDoorSc
import Derived.Test.YtkjjacndfieeoaaGreatDoorLab
namespace Go.Proofs.YtkjjacndfieeoaaGreatDoor
set_option linter.unusedVariables false
set_option linter.unusedSimpArgs false
set_option linter.unusedSectionVars false
open Go.RowKit Pl
section
attribute [local irreducible] z0m z0n z0q AnsP LeP W
set_option maxRecDepth 100000 in
set_option maxHeartbeats 8000000 in
theorem zfV (n t : Bs) (ts : List Bs) (hn : 1 ≤ n.length ∧ n.length ≤ 8) (ht : 1 ≤ t.length ∧ t.length ≤ 9000) (hl : (logB (ts ++ [t])).length ≤ 18000) : CT Tryz.prog 128 [] [.agg [.sl 3 (flE (dkOf n ts))], .sl 4 (acE n (z0J t))] (.tup [.agg [.sl 3 (flE (dkOf n (ts ++ [t])))], .int .i64 2]) [] := by
 have hl1 : (logB ts).length ≤ 18000 := Nat.le_trans (z4x ts t) hl
 have hfl := (z2K (t := t) (by omega)).2
 have a1 := ziZ (dkOf n ts) n (z0J t) (z7Q hn hl1) (z1k hn.2 hl1) hn (by omega) (by rw [zfy]; exact z4y hn hl) (by rw [zfy]; exact z5y hn.2 hl)
 rw [zfy] at a1
 have a2 := zhd (z31 n ts t) n t (z4y hn hl) (z5y hn.2 hl) hn 0 (dk_ix n ts t) (by rw [zaX]; exact z7Q hn hl) (by rw [zaX]; exact z1k hn.2 hl)
 rw [zaX] at a2
 have hd0 : (flE (dkOf n ts)).length ≤ 1000 := by rw [z2j]; exact (z1k hn.2 hl1).1
 generalize dkOf n (ts ++ [t]) = d2 at *
 generalize z31 n ts t = d1 at *
 generalize dkOf n ts = d0 at *
 generalize z0J t = f at *
 have hac : (acE n f).length = 2 := rfl
 have g0 : (acE n f)[0]? = some [.int .i64 1, .str n, .str f, .str []] := rfl
 have g1 : (acE n f)[1]? = some [.int .i64 2, .str n, .str [], .str []] := rfl
 generalize acE n f = A at *
 clear hl hl1 hfl hn ht
 refine z01 z0r 1 rfl Tryz.func128 rfl rfl rfl ?_
 conv => arg 6; whnf
 repeat ((try conv => whnf); first | (with_reducible first | refine z0c (fun Qs hN hE hR => ?_) | refine z0a ?_ | refine z03 (fun Qb kN kE kX kR => ?_) | refine z06 ?_ | refine z07 ?_ | refine z0b ?_ | refine z08 ?_ | refine z09 ?_ | (show W _ _ _ (.cond _ _ _) _ _; refine z05 rfl ?_) | (refine hN _ ?_; try clear hN hE hR Qs) | ((first | refine hE _ _ ?_ | refine hR _ ?_); try clear hN hE hR Qs) | ((first | refine kN _ ?_ | refine kE _ ?_ | refine kX _ _ rfl ?_ | refine kR _ ?_); try clear kN kE kX kR Qb)) | (refine And.intro (by simp only [List.length_append, List.length_set, List.length_replicate, List.length_cons, List.length_nil, List.nil_append]; omega) ?_) | (refine And.intro (by kernel_rfl) ?_) | (refine stpQ ?_))
 refine z0i 0 ⟨[(1, .sl 4 A), (4, .ptr 1 0 0), (6, .ptr 2 0 0)], [(1, some (.box [.val nilV])), (2, some (.box [.sl 3 (flE d2)]))], 3⟩ Nat (fun i => ⟨[(1, .sl 4 A), (4, .ptr 1 0 0), (6, .ptr 2 0 0), (7, .int .i64 (i : Int))], [(1, some (.box [.val nilV])), (2, some (.box [.sl 3 (flE (if i = 0 then d0 else if i = 1 then d1 else d2))]))], 3⟩) (fun i => i ≤ 2) (fun i => 2 - i) 0 (by decide) ?_ ?_ ?_
 ·(refine z02 (by rfl) ?_ ?_) <;> (repeat' (first | (exact eqA) | (refine And.intro ?_ ?_) | ((fail_if_success (with_reducible (show _ = _))); (show _ = _)))) <;> first | rfl | (simp; done)
 ·intro i hi
  have hc : i = 0 ∨ i = 1 ∨ i = 2 := by omega
  rcases hc with rfl | rfl | rfl
  ·have f1 : ((0 : Nat) : Int) < (A.length : Int) := by omega
   have f2 : 0 < A.length := by omega
   rw [if_pos rfl]
   repeat ((try conv => whnf); first | (with_reducible first | refine z0c (fun Qs hN hE hR => ?_) | refine z0a ?_ | refine z03 (fun Qb kN kE kX kR => ?_) | refine z06 ?_ | refine z07 ?_ | refine z0b ?_ | refine z08 ?_ | refine z09 ?_ | (show W _ _ _ (.cond _ _ _) _ _; refine z05 rfl ?_) | (refine hN _ ?_; try clear hN hE hR Qs) | ((first | refine hE _ _ ?_ | refine hR _ ?_); try clear hN hE hR Qs) | ((first | refine kN _ ?_ | refine kE _ ?_ | refine kX _ _ rfl ?_ | refine kR _ ?_); try clear kN kE kX kR Qb)) | (refine z0k f1 ?_) | (refine And.intro f2 ?_) | (refine i_at g0 ?_) | (refine Exists.intro 0 (And.intro rfl ?_)) | (refine Exists.intro _ (And.intro g0 ?_)) | (refine ccA ([]) (a1) ?_) | (refine And.intro (by kernel_rfl) ?_) | (refine stpQ ?_))
   refine ⟨1, by decide, by decide, ?_⟩
   (refine z02 (by rfl) ?_ ?_) <;> (repeat' (first | (exact eqA) | (refine And.intro ?_ ?_) | ((fail_if_success (with_reducible (show _ = _))); (show _ = _)))) <;> rfl
  ·have f1 : ((1 : Nat) : Int) < (A.length : Int) := by omega
   have f2 : 1 < A.length := by omega
   rw [if_neg (by decide), if_pos rfl]
   repeat ((try conv => whnf); first | (with_reducible first | refine z0c (fun Qs hN hE hR => ?_) | refine z0a ?_ | refine z03 (fun Qb kN kE kX kR => ?_) | refine z06 ?_ | refine z07 ?_ | refine z0b ?_ | refine z08 ?_ | refine z09 ?_ | (show W _ _ _ (.cond _ _ _) _ _; refine z05 rfl ?_) | (refine hN _ ?_; try clear hN hE hR Qs) | ((first | refine hE _ _ ?_ | refine hR _ ?_); try clear hN hE hR Qs) | ((first | refine kN _ ?_ | refine kE _ ?_ | refine kX _ _ rfl ?_ | refine kR _ ?_); try clear kN kE kX kR Qb)) | (refine z0k f1 ?_) | (refine And.intro f2 ?_) | (refine i_at g1 ?_) | (refine Exists.intro 1 (And.intro rfl ?_)) | (refine Exists.intro _ (And.intro g1 ?_)) | (refine ccA ([]) (a2) ?_) | (refine And.intro (by kernel_rfl) ?_) | (refine stpQ ?_))
   refine ⟨2, by decide, by decide, ?_⟩
   (refine z02 (by rfl) ?_ ?_) <;> (repeat' (first | (exact eqA) | (refine And.intro ?_ ?_) | ((fail_if_success (with_reducible (show _ = _))); (show _ = _)))) <;> rfl
  ·have f1 : ¬ ((2 : Nat) : Int) < (A.length : Int) := by omega
   rw [if_neg (by decide), if_neg (by decide)]
   repeat ((try conv => whnf); first | (with_reducible first | refine z0c (fun Qs hN hE hR => ?_) | refine z0a ?_ | refine z03 (fun Qb kN kE kX kR => ?_) | refine z06 ?_ | refine z07 ?_ | refine z0b ?_ | refine z08 ?_ | refine z09 ?_ | (show W _ _ _ (.cond _ _ _) _ _; refine z05 rfl ?_) | (refine hN _ ?_; try clear hN hE hR Qs) | ((first | refine hE _ _ ?_ | refine hR _ ?_); try clear hN hE hR Qs) | ((first | refine kN _ ?_ | refine kE _ ?_ | refine kX _ _ rfl ?_ | refine kR _ ?_); try clear kN kE kX kR Qb)) | (refine z0o f1 ?_) | (refine And.intro (by kernel_rfl) ?_) | (refine stpQ ?_))
   (refine z02 (by rfl) ?_ ?_) <;> (repeat' (first | (exact eqA) | (refine And.intro ?_ ?_) | ((fail_if_success (with_reducible (show _ = _))); (show _ = _)))) <;> rfl
 ·have e2 : (2 : Int) = (A.length : Int) := by omega
  repeat ((try conv => whnf); first | (with_reducible first | refine z0c (fun Qs hN hE hR => ?_) | refine z0a ?_ | refine z03 (fun Qb kN kE kX kR => ?_) | refine z06 ?_ | refine z07 ?_ | refine z0b ?_ | refine z08 ?_ | refine z09 ?_ | (show W _ _ _ (.cond _ _ _) _ _; refine z05 rfl ?_) | (refine hN _ ?_; try clear hN hE hR Qs) | ((first | refine hE _ _ ?_ | refine hR _ ?_); try clear hN hE hR Qs) | ((first | refine kN _ ?_ | refine kE _ ?_ | refine kX _ _ rfl ?_ | refine kR _ ?_); try clear kN kE kX kR Qb)) | (refine stpQ ?_))
  (refine z00 (by rfl) ?_ ?_ (by rfl)) <;> (repeat' (first | (exact eqA) | (refine And.intro ?_ ?_) | ((fail_if_success (with_reducible (show _ = _))); (show _ = _)))) <;> first | rfl | (rw [hac]; rfl)
end
end Go.Proofs.YtkjjacndfieeoaaGreatDoor
namespace Go.Proofs.YtkjjacndfieeoaaGreatDoor
set_option maxRecDepth 100000
set_option maxHeartbeats 8000000
set_option linter.unusedVariables false
set_option linter.unusedSimpArgs false
set_option linter.unusedSectionVars false
open Go.RowKit Pl
def ltsE (kind ep ty : Int) (n : Nat) : List (List T) := (List.range n).map fun (i : Nat) => [.int .i64 kind, .int .i64 0, .int .i64 ((i + 1 : Nat) : Int), .int .i64 ep, .int .i64 ty, .str []]
theorem z6K (kind ep ty : Int) (n : Nat) : (ltsE kind ep ty n).length = n := by simp [ltsE]
theorem zcD (kind ep ty : Int) (n : Nat) : ltsE kind ep ty (n + 1) = ltsE kind ep ty n ++ [[.int .i64 kind, .int .i64 0, .int .i64 ((n + 1 : Nat) : Int), .int .i64 ep, .int .i64 ty, .str []]] := by simp [ltsE, List.range_succ]
theorem zbd {k : Nat} (kind ep ty : Int) (n : Nat) : ownE (.row k (ltsE kind ep ty n)) := by
 intro e he c hc
 simp only [ltsE, List.mem_map] at he
 obtain ⟨i, _, rfl⟩ := he
 simp only [List.mem_cons, List.not_mem_nil, or_false] at hc
 rcases hc with rfl | rfl | rfl | rfl | rfl | rfl <;> trivial
def boE (l : List Bool) : List (List T) := l.map fun b => [.bool b]
theorem z1F (l : List Bool) : (boE l).length = l.length := by simp [boE]
theorem z8R (K : Nat) : strE (emN K) = emV (2 ^ K) := by simp [strE, emN, emV]
theorem zhg (K : Nat) : boE (emF K) = emD (2 ^ K) := by simp [boE, emF, emD]
def coB (ho K : Int) (po : List Bs) (ts : List Bs) (ty : Nat) (ask : Bool) (a b v d : Nat) : Ent := .box [.int .i64 ho, .int .i64 K, .bool true, .sl 3 (flE (dkOf coordN ts)), .sl 1 (strE po), .ref a, .ref b, .int .i64 (ty : Int), .bool ask, .ref v, .ref d]
def coH (ho K : Int) (po : List Bs) (c : Co) : List Ent := [coB ho K po c.ts c.s.ty c.ask 2 3 4 5, .row 8 (slE c.s.se), .row 1 (ntE c.s.tr), .row 1 (strE c.vo), .row 1 (boE c.dn)]
section
attribute [local irreducible] z0m z0n z0q AnsP LeP W CvE
theorem z7U (ho K : Int) (po : List Bs) (ts : List Bs) (ty : Nat) (ask : Bool) (R1 R2 R3 R4 : List (List T)) (t : Bs) (ht : 1 ≤ t.length ∧ t.length ≤ 9000) (hl : (logB (ts ++ [t])).length ≤ 18000) : CT Tryz.prog 92 [coB ho K po ts ty ask 2 3 4 5, .row 8 R1, .row 1 R2, .row 1 R3, .row 1 R4] [.ptr 1 0 0, .str t] (.bool true) [coB ho K po (ts ++ [t]) ty ask 2 3 4 5, .row 8 R1, .row 1 R2, .row 1 R3, .row 1 R4] := by
 have hn : 1 ≤ coordN.length ∧ coordN.length ≤ 8 := by decide
 have c1 := zfU coordN t hn (by decide) ht
 have c2 := zfV coordN t ts hn ht hl
 unfold coB
 generalize dkOf coordN (ts ++ [t]) = d2 at *
 generalize dkOf coordN ts = d0 at *
 have hac : (acE coordN (z0J t)).length = 2 := rfl
 generalize acE coordN (z0J t) = A at *
 unfold coordN at c1
 have f1 : ¬ (2 : Int) < (A.length : Int) := by omega
 clear hl ht
 refine z01 z0r 6 rfl Tryz.func92 rfl rfl rfl ?_
 conv => arg 6; whnf
 repeat ((try conv => whnf); first | (with_reducible first | refine z0c (fun Qs hN hE hR => ?_) | refine z0a ?_ | refine z03 (fun Qb kN kE kX kR => ?_) | refine z06 ?_ | refine z07 ?_ | refine z0b ?_ | refine z08 ?_ | refine z09 ?_ | (show W _ _ _ (.cond _ _ _) _ _; refine z05 rfl ?_) | (refine hN _ ?_; try clear hN hE hR Qs; (try (conv => arg 6; dsimp only [ovl, List.set, List.map, ren0]))) | ((first | refine hE _ _ ?_ | refine hR _ ?_); try clear hN hE hR Qs) | ((first | refine kN _ ?_ | refine kE _ ?_ | refine kX _ _ rfl ?_ | refine kR _ ?_); try clear kN kE kX kR Qb)) | (refine ccA ([]) (c1) ?_) | (refine ccA ([]) (c2) ?_) | (refine z0o f1 ?_) | (refine And.intro (by kernel_rfl) ?_) | (refine stpQ ?_))
 (refine z00 (by rfl) ?_ ?_ (by rfl)) <;> (repeat' (first | (exact eqA) | (refine And.intro ?_ ?_) | ((fail_if_success (with_reducible (show _ = _))); (show _ = _))))
theorem z8S (ho : Int) (K : Nat) (hK : K ≤ 2) (up ask : Bool) (F P S R V D : List (List T)) (ty0 kind ep ty : Int) : CT Tryz.prog 95 [] [.agg [.int .i64 ho, .int .i64 (K : Int), .bool up, .sl 3 F, .sl 1 P, .sl 8 S, .sl 1 R, .int .i64 ty0, .bool ask, .sl 1 V, .sl 1 D], .int .i64 kind, .int .i64 ep, .int .i64 ty] (.ref 1) [.row 6 (ltsE kind ep ty (2 ^ K))] := by
 have c1 := z3o K hK
 obtain ⟨e1, e2⟩ := pow2 hK
 generalize 2 ^ K = pk at c1 e2 ⊢
 refine z01 z0r 1 rfl Tryz.func95 rfl rfl rfl ?_
 conv => arg 6; whnf
 repeat ((try conv => whnf); first | (with_reducible first | refine z0c (fun Qs hN hE hR => ?_) | refine z0a ?_ | refine z03 (fun Qb kN kE kX kR => ?_) | refine z06 ?_ | refine z07 ?_ | refine z0b ?_ | refine z08 ?_ | refine z09 ?_ | (show W _ _ _ (.cond _ _ _) _ _; refine z05 rfl ?_) | (refine hN _ ?_; try clear hN hE hR Qs; (try (conv => arg 6; dsimp only [ovl, List.set, List.map, ren0]))) | ((first | refine hE _ _ ?_ | refine hR _ ?_); try clear hN hE hR Qs) | ((first | refine kN _ ?_ | refine kE _ ?_ | refine kX _ _ rfl ?_ | refine kR _ ?_); try clear kN kE kX kR Qb)) | (refine And.intro (by kernel_rfl) ?_) | (refine stpQ ?_))
 refine z0i 0 ⟨[(4, .ptr 1 0 0), (9, .ref 2)], [(1, some (.box [.int .i64 ho, .int .i64 (K : Int), .bool up, .sl 3 F, .sl 1 P, .sl 8 S, .sl 1 R, .int .i64 ty0, .bool ask, .sl 1 V, .sl 1 D])), (2, some (.row 6 (ltsE kind ep ty pk)))], 3⟩ Nat (fun i => ⟨[(1, .int .i64 kind), (2, .int .i64 ep), (3, .int .i64 ty), (4, .ptr 1 0 0), (9, .ref 2), (10, .int .i64 (i : Int))], [(1, some (.box [.int .i64 ho, .int .i64 (K : Int), .bool up, .sl 3 F, .sl 1 P, .sl 8 S, .sl 1 R, .int .i64 ty0, .bool ask, .sl 1 V, .sl 1 D])), (2, some (.row 6 (ltsE kind ep ty i)))], 3⟩) (fun i => i ≤ pk) (fun i => pk - i) 0 (Nat.zero_le _) ?_ ?_ ?_
 ·(refine z02 (by rfl) ?_ ?_) <;> (repeat' (first | (exact eqA) | (refine And.intro ?_ ?_) | ((fail_if_success (with_reducible (show _ = _))); (show _ = _)))) <;> first | rfl | decide
 ·intro i hi
  by_cases hlt : i < pk
  ·have f1 : ((i : Nat) : Int) < ((pk : Nat) : Int) := by omega
   have hn := zcD kind ep ty i
   have hl := z6K kind ep ty i
   generalize ltsE kind ep ty i = LI at *
   repeat ((try conv => whnf); first | (with_reducible first | refine z0c (fun Qs hN hE hR => ?_) | refine z0a ?_ | refine z03 (fun Qb kN kE kX kR => ?_) | refine z06 ?_ | refine z07 ?_ | refine z0b ?_ | refine z08 ?_ | refine z09 ?_ | (show W _ _ _ (.cond _ _ _) _ _; refine z05 rfl ?_) | (refine hN _ ?_; try clear hN hE hR Qs; (try (conv => arg 6; dsimp only [ovl, List.set, List.map, ren0]))) | ((first | refine hE _ _ ?_ | refine hR _ ?_); try clear hN hE hR Qs) | ((first | refine kN _ ?_ | refine kE _ ?_ | refine kX _ _ rfl ?_ | refine kR _ ?_); try clear kN kE kX kR Qb)) | (refine ccA ([]) (c1) ?_) | (refine z0k f1 ?_) | (refine And.intro (by simp only [List.length_append, List.length_set, List.length_replicate, List.length_cons, List.length_nil, List.nil_append]; omega) ?_) | (refine And.intro (by kernel_rfl) ?_) | (refine stpQ ?_))
   refine ⟨i + 1, (by (try dsimp only); omega), (by (try dsimp only); omega), ?_⟩
   (try dsimp only)
   rw [hn]
   (refine z02 (by rfl) ?_ ?_) <;> (repeat' (first | (exact eqA) | (refine And.intro ?_ ?_) | ((fail_if_success (with_reducible (show _ = _))); (show _ = _)))) <;> rfl
  ·obtain rfl : i = pk := by omega
   have f1 : ¬ ((i : Nat) : Int) < ((i : Nat) : Int) := by omega
   repeat ((try conv => whnf); first | (with_reducible first | refine z0c (fun Qs hN hE hR => ?_) | refine z0a ?_ | refine z03 (fun Qb kN kE kX kR => ?_) | refine z06 ?_ | refine z07 ?_ | refine z0b ?_ | refine z08 ?_ | refine z09 ?_ | (show W _ _ _ (.cond _ _ _) _ _; refine z05 rfl ?_) | (refine hN _ ?_; try clear hN hE hR Qs; (try (conv => arg 6; dsimp only [ovl, List.set, List.map, ren0]))) | ((first | refine hE _ _ ?_ | refine hR _ ?_); try clear hN hE hR Qs) | ((first | refine kN _ ?_ | refine kE _ ?_ | refine kX _ _ rfl ?_ | refine kR _ ?_); try clear kN kE kX kR Qb)) | (refine ccA ([]) (c1) ?_) | (refine z0o f1 ?_) | (refine And.intro (by kernel_rfl) ?_) | (refine stpQ ?_))
   (refine z02 (by rfl) ?_ ?_) <;> (repeat' (first | (exact eqA) | (refine And.intro ?_ ?_) | ((fail_if_success (with_reducible (show _ = _))); (show _ = _)))) <;> rfl
 ·repeat ((try conv => whnf); first | (with_reducible first | refine z0c (fun Qs hN hE hR => ?_) | refine z0a ?_ | refine z03 (fun Qb kN kE kX kR => ?_) | refine z06 ?_ | refine z07 ?_ | refine z0b ?_ | refine z08 ?_ | refine z09 ?_ | (show W _ _ _ (.cond _ _ _) _ _; refine z05 rfl ?_) | (refine hN _ ?_; try clear hN hE hR Qs; (try (conv => arg 6; dsimp only [ovl, List.set, List.map, ren0]))) | ((first | refine hE _ _ ?_ | refine hR _ ?_); try clear hN hE hR Qs) | ((first | refine kN _ ?_ | refine kE _ ?_ | refine kX _ _ rfl ?_ | refine kR _ ?_); try clear kN kE kX kR Qb)) | (refine And.intro (by kernel_rfl) ?_) | (refine stpQ ?_))
  (refine z00 (by rfl) ?_ ?_ (by rfl)) <;> (repeat' (first | (exact eqA) | (refine And.intro ?_ ?_) | ((fail_if_success (with_reducible (show _ = _))); (show _ = _)))) <;> rfl
theorem z3H (ho : Int) (K : Nat) (hK : K ≤ 2) (po : List Bs) (c : Co) (ha : c.ask = false) (hs : c.s.se.length < 4) (hy : c.s.ty ≤ 999) (hsz : (logB (c.ts ++ [begB (c.s.ty + 1)])).length ≤ 18000) : CT Tryz.prog 56 (coH ho (K : Int) po c) [.ptr 1 0 0] (.ref 7)
 [coB ho (K : Int) po (c.ts ++ [begB (c.s.ty + 1)]) (c.s.ty + 1) true 2 3 6 5, .row 8 (slE c.s.se), .row 1 (ntE c.s.tr), .row 1 (strE c.vo), .row 1 (boE c.dn), .row 1 (emV (2 ^ K)), .row 6 (ltsE 1 ((c.s.se.length + 1 : Nat) : Int) ((c.s.ty + 1 : Nat) : Int) (2 ^ K))] := by
 have hb := z1D (n := c.s.ty + 1) (by omega)
 have c1 := z0U (c.s.ty : Int) 0 999
 rw [z0u.2 (show (0 : Int) ≤ (c.s.ty : Int) ∧ (c.s.ty : Int) ≤ 999 by omega)] at c1
 have c2 := z7w (c.s.ty + 1) (by omega)
 have c3 := z7U ho (K : Int) po c.ts c.s.ty false (slE c.s.se) (ntE c.s.tr) (strE c.vo) (boE c.dn) (begB (c.s.ty + 1)) (by omega) hsz
 have c4 := z3o K hK
 have c5 := z8S ho K hK true true (flE (dkOf coordN (c.ts ++ [begB (c.s.ty + 1)]))) (strE po) (slE c.s.se) (ntE c.s.tr) (emV (2 ^ K)) (boE c.dn) ((c.s.ty + 1 : Nat) : Int) 1 ((c.s.se.length + 1 : Nat) : Int) ((c.s.ty + 1 : Nat) : Int)
 obtain ⟨e1, e2⟩ := pow2 hK
 have hse := z0B c.s.se
 have hOw : ∀ e ∈ [Ent.row 6 (ltsE 1 ((c.s.se.length + 1 : Nat) : Int) ((c.s.ty + 1 : Nat) : Int) (2 ^ K))], ownE e := fun e he => by
  rw [List.mem_singleton.1 he]; exact zbd _ _ _ _
 unfold coH
 rw [ha]
 unfold coB at *
 have hbt : begB (c.s.ty + 1) = [1] ++ z0e (c.s.ty + 1) := rfl
 have hvl : (z0e (c.s.ty + 1)).length ≤ 11 := by have h9 := hb.2; rw [hbt, List.length_append] at h9; simp at h9; omega
 rw [hbt] at c3 ⊢
 rw [hbt] at c5
 generalize z0e (c.s.ty + 1) = vt at *
 generalize dkOf coordN (c.ts ++ [[1] ++ vt]) = d2 at *
 generalize dkOf coordN c.ts = d0 at *
 generalize slE c.s.se = SE at *
 generalize ntE c.s.tr = TR at *
 generalize strE c.vo = VO at *
 generalize boE c.dn = DN at *
 generalize strE po = PO at *
 generalize hsl : c.s.se.length = sl at *
 generalize hty : c.s.ty = y at *
 unfold emV at *
 generalize 2 ^ K = pk at c4 c5 e2 hOw ⊢
 have f1 : ¬ ((sl : Nat) : Int) ≥ 4 := by omega
 clear hsz hb hbt hsl hty ha
 refine z01 z0r 6 rfl Tryz.func56 rfl rfl rfl ?_
 conv => arg 6; whnf
 repeat ((try conv => whnf); first | (with_reducible first | refine z0c (fun Qs hN hE hR => ?_) | refine z0a ?_ | refine z03 (fun Qb kN kE kX kR => ?_) | refine z06 ?_ | refine z07 ?_ | refine z0b ?_ | refine z08 ?_ | refine z09 ?_ | (show W _ _ _ (.cond _ _ _) _ _; refine z05 rfl ?_) | (refine hN _ ?_; try clear hN hE hR Qs; (try (conv => arg 6; dsimp only [ovl, List.set, List.map, ren0]))) | ((first | refine hE _ _ ?_ | refine hR _ ?_); try clear hN hE hR Qs) | ((first | refine kN _ ?_ | refine kE _ ?_ | refine kX _ _ rfl ?_ | refine kR _ ?_); try clear kN kE kX kR Qb)) | (refine Exists.intro sl (And.intro hse ?_)) | (refine z0o f1 ?_) | (refine ccA ([]) (c1) ?_) | (refine ccA ([]) (c2) ?_) | (refine ccB ([1, 2, 3, 4, 5]) (c3) ?_) | (refine ccA ([]) (c4) ?_) | (refine Exists.intro pk (And.intro rfl (And.intro rfl (And.intro (by omega) ?_)))) | (refine ccA [] (c5) ?_ (h5 := .inr (And.intro (by simp [own2, own1, own0]) hOw))) | (refine And.intro (by simp only [List.length_append, List.length_set, List.length_replicate, List.length_cons, List.length_nil, List.nil_append]; omega) ?_) | (refine And.intro (by kernel_rfl) ?_) | (refine stpQ ?_))
 (refine z00 (by rfl) ?_ ?_ (by rfl)) <;> (repeat' (first | (exact eqA) | (refine And.intro ?_ ?_) | ((fail_if_success (with_reducible (show _ = _))); (show _ = _)))) <;> first | rfl | (simp; done)
theorem z4z (ho : Int) (K : Nat) (po : List Bs) (c : Co) (ha : c.ask = true) : CT Tryz.prog 56 (coH ho (K : Int) po c) [.ptr 1 0 0] (.sl 6 []) (coH ho (K : Int) po c) := by
 have hse := z0B c.s.se
 unfold coH coB
 rw [ha]
 generalize dkOf coordN c.ts = d0 at *
 generalize slE c.s.se = SE at *
 generalize ntE c.s.tr = TR at *
 generalize strE c.vo = VO at *
 generalize boE c.dn = DN at *
 generalize strE po = PO at *
 refine z01 z0r 6 rfl Tryz.func56 rfl rfl rfl ?_
 conv => arg 6; whnf
 repeat ((try conv => whnf); first | (with_reducible first | refine z0c (fun Qs hN hE hR => ?_) | refine z0a ?_ | refine z03 (fun Qb kN kE kX kR => ?_) | refine z06 ?_ | refine z07 ?_ | refine z0b ?_ | refine z08 ?_ | refine z09 ?_ | (show W _ _ _ (.cond _ _ _) _ _; refine z05 rfl ?_) | (refine hN _ ?_; try clear hN hE hR Qs; (try (conv => arg 6; dsimp only [ovl, List.set, List.map, ren0]))) | ((first | refine hE _ _ ?_ | refine hR _ ?_); try clear hN hE hR Qs) | ((first | refine kN _ ?_ | refine kE _ ?_ | refine kX _ _ rfl ?_ | refine kR _ ?_); try clear kN kE kX kR Qb)) | (refine cb_t rfl ?_) | (refine And.intro (by kernel_rfl) ?_) | (refine stpQ ?_))
 (refine z00 (by rfl) ?_ ?_ (by rfl)) <;> (repeat' (first | (exact eqA) | (refine And.intro ?_ ?_) | ((fail_if_success (with_reducible (show _ = _))); (show _ = _)))) <;> first | rfl | (simp; done)
theorem z4A (ho : Int) (K : Nat) (po : List Bs) (c : Co) (ha : c.ask = false) (hs : 4 ≤ c.s.se.length) : CT Tryz.prog 56 (coH ho (K : Int) po c) [.ptr 1 0 0] (.sl 6 []) (coH ho (K : Int) po c) := by
 have hse := z0B c.s.se
 unfold coH coB
 rw [ha]
 have f1 : ((c.s.se.length : Nat) : Int) ≥ 4 := by omega
 generalize dkOf coordN c.ts = d0 at *
 generalize slE c.s.se = SE at *
 generalize ntE c.s.tr = TR at *
 generalize strE c.vo = VO at *
 generalize boE c.dn = DN at *
 generalize strE po = PO at *
 refine z01 z0r 6 rfl Tryz.func56 rfl rfl rfl ?_
 conv => arg 6; whnf
 repeat ((try conv => whnf); first | (with_reducible first | refine z0c (fun Qs hN hE hR => ?_) | refine z0a ?_ | refine z03 (fun Qb kN kE kX kR => ?_) | refine z06 ?_ | refine z07 ?_ | refine z0b ?_ | refine z08 ?_ | refine z09 ?_ | (show W _ _ _ (.cond _ _ _) _ _; refine z05 rfl ?_) | (refine hN _ ?_; try clear hN hE hR Qs; (try (conv => arg 6; dsimp only [ovl, List.set, List.map, ren0]))) | ((first | refine hE _ _ ?_ | refine hR _ ?_); try clear hN hE hR Qs) | ((first | refine kN _ ?_ | refine kE _ ?_ | refine kX _ _ rfl ?_ | refine kR _ ?_); try clear kN kE kX kR Qb)) | (refine Exists.intro c.s.se.length (And.intro hse ?_)) | (refine z0k f1 ?_) | (refine And.intro (by kernel_rfl) ?_) | (refine stpQ ?_))
 (refine z00 (by rfl) ?_ ?_ (by rfl)) <;> (repeat' (first | (exact eqA) | (refine And.intro ?_ ?_) | ((fail_if_success (with_reducible (show _ = _))); (show _ = _)))) <;> first | rfl | (simp; done)
theorem z4B (ho : Int) (K : Nat) (po : List Bs) (c : Co) (ha : c.ask = false) (hs : c.s.se.length < 4) (hy : 999 < c.s.ty) : CT Tryz.prog 56 (coH ho (K : Int) po c) [.ptr 1 0 0] (.sl 6 []) (coH ho (K : Int) po c) := by
 have c1 := z0U (c.s.ty : Int) 0 999
 have i1 : inB (c.s.ty : Int) 0 999 = false := z8B (by omega)
 rw [i1] at c1
 have hse := z0B c.s.se
 unfold coH coB
 rw [ha]
 have f1 : ¬ ((c.s.se.length : Nat) : Int) ≥ 4 := by omega
 generalize dkOf coordN c.ts = d0 at *
 generalize slE c.s.se = SE at *
 generalize ntE c.s.tr = TR at *
 generalize strE c.vo = VO at *
 generalize boE c.dn = DN at *
 generalize strE po = PO at *
 refine z01 z0r 6 rfl Tryz.func56 rfl rfl rfl ?_
 conv => arg 6; whnf
 repeat ((try conv => whnf); first | (with_reducible first | refine z0c (fun Qs hN hE hR => ?_) | refine z0a ?_ | refine z03 (fun Qb kN kE kX kR => ?_) | refine z06 ?_ | refine z07 ?_ | refine z0b ?_ | refine z08 ?_ | refine z09 ?_ | (show W _ _ _ (.cond _ _ _) _ _; refine z05 rfl ?_) | (refine hN _ ?_; try clear hN hE hR Qs; (try (conv => arg 6; dsimp only [ovl, List.set, List.map, ren0]))) | ((first | refine hE _ _ ?_ | refine hR _ ?_); try clear hN hE hR Qs) | ((first | refine kN _ ?_ | refine kE _ ?_ | refine kX _ _ rfl ?_ | refine kR _ ?_); try clear kN kE kX kR Qb)) | (refine Exists.intro c.s.se.length (And.intro hse ?_)) | (refine z0o f1 ?_) | (refine ccA ([]) (c1) ?_) | (refine And.intro (by kernel_rfl) ?_) | (refine stpQ ?_))
 (refine z00 (by rfl) ?_ ?_ (by rfl)) <;> (repeat' (first | (exact eqA) | (refine And.intro ?_ ?_) | ((fail_if_success (with_reducible (show _ = _))); (show _ = _)))) <;> first | rfl | (simp; done)
theorem z8T (ho : Int) (K : Nat) (hK : K ≤ 2) (po : List Bs) (c : Co) (ha : c.ask = true) (hs : c.s.se.length ≤ 10) : CT Tryz.prog 58 (coH ho (K : Int) po c) [.ptr 1 0 0] (.ref 7)
 [coB ho (K : Int) po c.ts c.s.ty false 2 3 6 5, .row 8 (slE c.s.se), .row 1 (ntE c.s.tr), .row 1 (strE c.vo), .row 1 (boE c.dn), .row 1 (emV (2 ^ K)), .row 6 (ltsE 3 ((c.s.se.length + 1 : Nat) : Int) (c.s.ty : Int) (2 ^ K))] := by
 have c4 := z3o K hK
 have c5 := z8S ho K hK true false (flE (dkOf coordN c.ts)) (strE po) (slE c.s.se) (ntE c.s.tr) (emV (2 ^ K)) (boE c.dn) (c.s.ty : Int) 3 ((c.s.se.length + 1 : Nat) : Int) (c.s.ty : Int)
 obtain ⟨e1, e2⟩ := pow2 hK
 have hse := z0B c.s.se
 have hOw : ∀ e ∈ [Ent.row 6 (ltsE 3 ((c.s.se.length + 1 : Nat) : Int) (c.s.ty : Int) (2 ^ K))], ownE e := fun e he => by
  rw [List.mem_singleton.1 he]; exact zbd _ _ _ _
 unfold coH
 rw [ha]
 unfold coB at *
 generalize dkOf coordN c.ts = d0 at *
 generalize slE c.s.se = SE at *
 generalize ntE c.s.tr = TR at *
 generalize strE c.vo = VO at *
 generalize boE c.dn = DN at *
 generalize strE po = PO at *
 generalize hsl : c.s.se.length = sl at *
 generalize hty : c.s.ty = y at *
 unfold emV at *
 generalize 2 ^ K = pk at c4 c5 e2 hOw ⊢
 clear hsl hty ha
 refine z01 z0r 6 rfl Tryz.func58 rfl rfl rfl ?_
 conv => arg 6; whnf
 repeat ((try conv => whnf); first | (with_reducible first | refine z0c (fun Qs hN hE hR => ?_) | refine z0a ?_ | refine z03 (fun Qb kN kE kX kR => ?_) | refine z06 ?_ | refine z07 ?_ | refine z0b ?_ | refine z08 ?_ | refine z09 ?_ | (show W _ _ _ (.cond _ _ _) _ _; refine z05 rfl ?_) | (refine hN _ ?_; try clear hN hE hR Qs; (try (conv => arg 6; dsimp only [ovl, List.set, List.map, ren0]))) | ((first | refine hE _ _ ?_ | refine hR _ ?_); try clear hN hE hR Qs) | ((first | refine kN _ ?_ | refine kE _ ?_ | refine kX _ _ rfl ?_ | refine kR _ ?_); try clear kN kE kX kR Qb)) | (refine Exists.intro sl (And.intro hse ?_)) | (refine ccA ([]) (c4) ?_) | (refine Exists.intro pk (And.intro rfl (And.intro rfl (And.intro (by omega) ?_)))) | (refine ccA [] (c5) ?_ (h5 := .inr (And.intro (by simp [own2, own1, own0]) hOw))) | (refine And.intro (by simp only [List.length_append, List.length_set, List.length_replicate, List.length_cons, List.length_nil, List.nil_append]; omega) ?_) | (refine And.intro (by kernel_rfl) ?_) | (refine stpQ ?_))
 (refine z00 (by rfl) ?_ ?_ (by rfl)) <;> (repeat' (first | (exact eqA) | (refine And.intro ?_ ?_) | ((fail_if_success (with_reducible (show _ = _))); (show _ = _)))) <;> first | rfl | (simp; done)
theorem za8 (ho : Int) (K : Nat) (po : List Bs) (c : Co) (ha : c.ask = false) : CT Tryz.prog 58 (coH ho (K : Int) po c) [.ptr 1 0 0] (.sl 6 []) (coH ho (K : Int) po c) := by
 have hse := z0B c.s.se
 unfold coH coB
 rw [ha]
 generalize dkOf coordN c.ts = d0 at *
 generalize slE c.s.se = SE at *
 generalize ntE c.s.tr = TR at *
 generalize strE c.vo = VO at *
 generalize boE c.dn = DN at *
 generalize strE po = PO at *
 refine z01 z0r 6 rfl Tryz.func58 rfl rfl rfl ?_
 conv => arg 6; whnf
 repeat ((try conv => whnf); first | (with_reducible first | refine z0c (fun Qs hN hE hR => ?_) | refine z0a ?_ | refine z03 (fun Qb kN kE kX kR => ?_) | refine z06 ?_ | refine z07 ?_ | refine z0b ?_ | refine z08 ?_ | refine z09 ?_ | (show W _ _ _ (.cond _ _ _) _ _; refine z05 rfl ?_) | (refine hN _ ?_; try clear hN hE hR Qs; (try (conv => arg 6; dsimp only [ovl, List.set, List.map, ren0]))) | ((first | refine hE _ _ ?_ | refine hR _ ?_); try clear hN hE hR Qs) | ((first | refine kN _ ?_ | refine kE _ ?_ | refine kX _ _ rfl ?_ | refine kR _ ?_); try clear kN kE kX kR Qb)) | (refine cb_t rfl ?_) | (refine And.intro (by kernel_rfl) ?_) | (refine stpQ ?_))
 (refine z00 (by rfl) ?_ ?_ (by rfl)) <;> (repeat' (first | (exact eqA) | (refine And.intro ?_ ?_) | ((fail_if_success (with_reducible (show _ = _))); (show _ = _)))) <;> first | rfl | (simp; done)
end
end Go.Proofs.YtkjjacndfieeoaaGreatDoor
namespace Go.Proofs.YtkjjacndfieeoaaGreatDoor
set_option linter.unusedVariables false
set_option linter.unusedSimpArgs false
set_option linter.unusedSectionVars false
open Go.RowKit Pl
def coE (ho K : Int) (po : List Bs) (c : Co) : List T := [.int .i64 ho, .int .i64 K, .bool true, .sl 3 (flE (dkOf coordN c.ts)), .sl 1 (strE po), .sl 8 (slE c.s.se), .sl 1 (ntE c.s.tr), .int .i64 (c.s.ty : Int), .bool c.ask, .sl 1 (strE c.vo), .sl 1 (boE c.dn)]
end Go.Proofs.YtkjjacndfieeoaaGreatDoor
namespace Go.Proofs.YtkjjacndfieeoaaGreatDoor
set_option maxRecDepth 100000
set_option maxHeartbeats 8000000
set_option linter.unusedVariables false
set_option linter.unusedSimpArgs false
set_option linter.unusedSectionVars false
open Go.RowKit Pl
theorem zg3 {K : Nat} {l : List Bs} (hK : K ≤ 2) (hl : l.length = 2 ^ K) (hw : ∀ x ∈ l, x.length = 16) : (z2o l).length = 16 := by
 have hp : ∀ (x y : Bs), x.length = 16 → y.length = 16 → (z3A 3 [x, y] 16).length = 16 := fun x y hx hy => by
  have hP : z0Q [x, y] := z4Q (by simp) (fun z hz => by
   simp only [List.mem_cons, List.not_mem_nil, or_false] at hz
   rcases hz with rfl | rfl <;> assumption)
  unfold z3A
  rw [if_pos hP]
  exact z5o (by omega)
 rcases (show K = 0 ∨ K = 1 ∨ K = 2 by omega) with rfl | rfl | rfl
 ·match l, hl, hw with
  | [a], _, hw => exact hw a List.mem_cons_self
 ·match l, hl, hw with
  | [a, b], _, hw =>
    have e : z2o [a, b] = z3A 3 [a, b] 16 := by simp [z2o, zb9, lvlA, upA, pAt, List.range_succ]
    rw [e]
    exact hp a b (hw a (by simp)) (hw b (by simp))
 ·match l, hl, hw with
  | [a, b, c, d], _, hw =>
    have e : z2o [a, b, c, d] = z3A 3 [z3A 3 [a, b] 16, z3A 3 [c, d] 16] 16 := by simp [z2o, zb9, lvlA, upA, pAt, List.range_succ]
    rw [e]
    exact hp _ _ (hp a b (hw a (by simp)) (hw b (by simp))) (hp c d (hw c (by simp)) (hw d (by simp)))
theorem z4C {ho K m : Nat} {c : Co} (hh : ho ≤ 2) (hK : K ≤ 2) (h : CoOk ho K m c) (ha : c.ask = true) (hv : [] ∉ c.vo) : (clHd ho c).good ∧ (clSg ho c).good ∧ (z2o c.vo).length = 16 ∧ (∀ x ∈ c.vo, x.length = 16) := by
 have hw : ∀ x ∈ c.vo, x.length = 16 := fun x hx => by
  rcases h.vw x hx with e | e
  ·exact absurd (e ▸ hx) hv
  ·exact e
 have hr := zg3 hK h.vl hw
 obtain ⟨h1, h2⟩ := h.ya ha
 have gh : (clHd ho c).good := z2L hh (by rw [z3x]; exact h1) hr
 exact ⟨gh, z7G (z0H _ _) z2I (by have h3 := gh.2.2.1; omega), hr, hw⟩
section
attribute [local irreducible] z0m z0n z0q AnsP LeP W CvE
theorem zbo (ho : Int) (K : Nat) (hK : K ≤ 2) (po : List Bs) (ts : List Bs) (ty : Nat) (ask : Bool) (R1 R2 R3 R4 : List (List T)) : CT Tryz.prog 123 [coB ho (K : Int) po ts ty ask 2 3 4 5, .row 8 R1, .row 1 R2, .row 1 R3, .row 1 R4] [.ptr 1 0 0] (.tup []) [coB ho (K : Int) po ts ty false 2 3 6 7, .row 8 R1, .row 1 R2, .row 1 R3, .row 1 R4, .row 1 (emV (2 ^ K)), .row 1 (emD (2 ^ K))] := by
 have c1 := z3o K hK
 obtain ⟨e1, e2⟩ := pow2 hK
 unfold emV emD coB
 generalize dkOf coordN ts = d0 at *
 generalize 2 ^ K = pk at c1 e2 ⊢
 refine z01 z0r 6 rfl Tryz.func123 rfl rfl rfl ?_
 conv => arg 6; whnf
 repeat ((try conv => whnf); first | (with_reducible first | refine z0c (fun Qs hN hE hR => ?_) | refine z0a ?_ | refine z03 (fun Qb kN kE kX kR => ?_) | refine z06 ?_ | refine z07 ?_ | refine z0b ?_ | refine z08 ?_ | refine z09 ?_ | (show W _ _ _ (.cond _ _ _) _ _; refine z05 rfl ?_) | (refine hN _ ?_; try clear hN hE hR Qs; (try (conv => arg 6; dsimp only [ovl, List.set, List.map, ren0]))) | ((first | refine hE _ _ ?_ | refine hR _ ?_); try clear hN hE hR Qs) | ((first | refine kN _ ?_ | refine kE _ ?_ | refine kX _ _ rfl ?_ | refine kR _ ?_); try clear kN kE kX kR Qb)) | (refine ccA ([]) (c1) ?_) | (refine Exists.intro pk (And.intro rfl (And.intro rfl (And.intro (by omega) ?_)))) | (refine And.intro (by kernel_rfl) ?_) | (refine stpQ ?_))
 (refine z00 (by rfl) ?_ ?_ (by rfl)) <;> (repeat' (first | (exact eqA) | (refine And.intro ?_ ?_) | ((fail_if_success (with_reducible (show _ = _))); (show _ = _)))) <;> first | rfl | (simp; done)
theorem z8V (ho : Int) (K : Nat) (po : List Bs) (ts : List Bs) (ty : Nat) (ask : Bool) (R1 R2 R4 : List (List T)) (vo : List Bs) (hv : [] ∈ vo) (hl : vo.length ≤ 10) : CT Tryz.prog 98 [coB ho (K : Int) po ts ty ask 2 3 4 5, .row 8 R1, .row 1 R2, .row 1 (strE vo), .row 1 R4] [.ptr 1 0 0] (.sl 6 []) [coB ho (K : Int) po ts ty ask 2 3 4 5, .row 8 R1, .row 1 R2, .row 1 (strE vo), .row 1 R4] := by
 obtain ⟨k, hk, ek⟩ := List.getElem_of_mem hv
 have hvl := z0d vo
 refine z01 z0r 6 rfl Tryz.func98 rfl rfl rfl ?_
 conv => arg 6; whnf
 repeat ((try conv => whnf); first | (with_reducible first | refine z0c (fun Qs hN hE hR => ?_) | refine z0a ?_ | refine z03 (fun Qb kN kE kX kR => ?_) | refine z06 ?_ | refine z07 ?_ | refine z0b ?_ | refine z08 ?_ | refine z09 ?_ | (show W _ _ _ (.cond _ _ _) _ _; refine z05 rfl ?_) | (refine hN _ ?_; try clear hN hE hR Qs; (try (conv => arg 6; dsimp only [ovl, List.set, List.map, ren0]))) | ((first | refine hE _ _ ?_ | refine hR _ ?_); try clear hN hE hR Qs) | ((first | refine kN _ ?_ | refine kE _ ?_ | refine kX _ _ rfl ?_ | refine kR _ ?_); try clear kN kE kX kR Qb)) | (refine And.intro (by kernel_rfl) ?_) | (refine stpQ ?_))
 refine z11 Nat (fun i => ⟨[(0, .ptr 1 0 0), (3, .int .i64 (i : Int))], [(1, some (coB ho (K : Int) po ts ty ask 2 3 4 5)), (2, some (.row 8 R1)), (3, some (.row 1 R2)), (4, some (.row 1 (strE vo))), (5, some (.row 1 R4))], 6⟩) (fun i => i ≤ k) (fun i => k - i) 0 (Nat.zero_le _) ?_ ?_
 ·(refine z02 (by rfl) ?_ ?_) <;> (repeat' (first | (exact eqA) | (refine And.intro ?_ ?_) | ((fail_if_success (with_reducible (show _ = _))); (show _ = _)))) <;> first | rfl | decide
 ·intro Q1 hQ1 i hi
  have hlt : i < vo.length := by omega
  have f1 : (i : Int) < ((vo.length : Nat) : Int) := by omega
  have gi : (strE vo)[i]? = some [.str vo[i]] := by simp [strE, List.getElem?_eq_getElem hlt]
  have f2 : i < (strE vo).length := by omega
  unfold coB
  by_cases hc : vo[i] = []
  ·rw [hc] at gi
   have f3 : ([] : Bs) = [] := rfl
   repeat ((try conv => whnf); first | (with_reducible first | refine z0c (fun Qs hN hE hR => ?_) | refine z0a ?_ | refine z03 (fun Qb kN kE kX kR => ?_) | refine z06 ?_ | refine z07 ?_ | refine z0b ?_ | refine z08 ?_ | refine z09 ?_ | (show W _ _ _ (.cond _ _ _) _ _; refine z05 rfl ?_) | (refine hN _ ?_; try clear hN hE hR Qs; (try (conv => arg 6; dsimp only [ovl, List.set, List.map, ren0]))) | ((first | refine hE _ _ ?_ | refine hR _ ?_); try clear hN hE hR Qs) | ((first | refine kN _ ?_ | refine kE _ ?_ | refine kX _ _ rfl ?_ | refine kR _ ?_); try clear kN kE kX kR Qb)) | (refine Exists.intro vo.length (And.intro hvl ?_)) | (refine z0k f1 ?_) | (refine i_lt f2 ?_) | (refine Exists.intro _ (And.intro gi ?_)) | (refine z0k f3 ?_) | (refine And.intro (by kernel_rfl) ?_) | (refine stpQ ?_))
   refine hQ1 _ _ ?_
   clear hQ1 Q1
   repeat ((try conv => whnf); first | (with_reducible first | refine z0c (fun Qs hN hE hR => ?_) | refine z0a ?_ | refine z03 (fun Qb kN kE kX kR => ?_) | refine z06 ?_ | refine z07 ?_ | refine z0b ?_ | refine z08 ?_ | refine z09 ?_ | (show W _ _ _ (.cond _ _ _) _ _; refine z05 rfl ?_) | (refine hN _ ?_; try clear hN hE hR Qs; (try (conv => arg 6; dsimp only [ovl, List.set, List.map, ren0]))) | ((first | refine hE _ _ ?_ | refine hR _ ?_); try clear hN hE hR Qs) | ((first | refine kN _ ?_ | refine kE _ ?_ | refine kX _ _ rfl ?_ | refine kR _ ?_); try clear kN kE kX kR Qb)) | (refine And.intro (by kernel_rfl) ?_) | (refine stpQ ?_))
   (refine z00 (by rfl) ?_ ?_ (by rfl)) <;> (repeat' (first | (exact eqA) | (refine And.intro ?_ ?_) | ((fail_if_success (with_reducible (show _ = _))); (show _ = _)))) <;> first | rfl | (simp; done)
  ·have hik : i < k := by
    rcases Nat.lt_or_ge i k with h | h
    ·exact h
    ·obtain rfl : i = k := by omega
     exact absurd ek hc
   have f3 : ¬ vo[i] = [] := hc
   clear hc
   generalize vo[i] = y at *
   repeat ((try conv => whnf); first | (with_reducible first | refine z0c (fun Qs hN hE hR => ?_) | refine z0a ?_ | refine z03 (fun Qb kN kE kX kR => ?_) | refine z06 ?_ | refine z07 ?_ | refine z0b ?_ | refine z08 ?_ | refine z09 ?_ | (show W _ _ _ (.cond _ _ _) _ _; refine z05 rfl ?_) | (refine hN _ ?_; try clear hN hE hR Qs; (try (conv => arg 6; dsimp only [ovl, List.set, List.map, ren0]))) | ((first | refine hE _ _ ?_ | refine hR _ ?_); try clear hN hE hR Qs) | ((first | refine kN _ ?_ | refine kE _ ?_ | refine kX _ _ rfl ?_ | refine kR _ ?_); try clear kN kE kX kR Qb)) | (refine Exists.intro vo.length (And.intro hvl ?_)) | (refine z0k f1 ?_) | (refine i_lt f2 ?_) | (refine Exists.intro _ (And.intro gi ?_)) | (refine z0o f3 ?_) | (refine And.intro (by kernel_rfl) ?_) | (refine stpQ ?_))
   refine ⟨i + 1, hik, by omega, ?_⟩
   (try unfold coB)
   (refine z02 (by rfl) ?_ ?_) <;> (repeat' (first | (exact eqA) | (refine And.intro ?_ ?_) | ((fail_if_success (with_reducible (show _ = _))); (show _ = _)))) <;> rfl
theorem z73 (ho K m : Nat) (hh : ho ≤ 2) (hK : K ≤ 2) (c : Co) (h : CoOk ho K m c) (hm : m ≤ 100) (ha : c.ask = true) (hv : [] ∉ c.vo) : CT Tryz.prog 98 (coH (ho : Int) (K : Int) (z0g (z0j ho) 16) c) [.ptr 1 0 0] (.ref 10)
 [coB (ho : Int) (K : Int) (z0g (z0j ho) 16) (cloC ho K c).ts c.s.ty false 6 7 8 9, .row 0 [], .row 0 [], .row 1 (strE c.vo), .row 1 (boE c.dn), .row 8 (slE (cloC ho K c).s.se), .row 1 (ntE (cloC ho K c).s.tr), .row 1 (emV (2 ^ K)), .row 1 (emD (2 ^ K)), .row 6 (ltsE 4 ((c.s.se.length + 1 : Nat) : Int) (c.s.ty : Int) (2 ^ K))] := by
 obtain ⟨gh, gs, hr, hw⟩ := z4C hh hK h ha hv
 have hok := h.lg.ok hh
 have hty := h.lg.ty
 have hsl := z1H hok
 have hvl2 := h.vl
 obtain ⟨e1, e2⟩ := pow2 hK
 have hcN : z4w c.vo = true := by
  unfold z4w
  rw [hvl2]
  rcases (show K = 0 ∨ K = 1 ∨ K = 2 by omega) with e | e | e <;> rw [e] <;> decide
 have c1 := z3n c.vo (by omega) hw
 rw [zba, hcN] at c1
 have c2 := zhb c.s.se (by omega)
 have c3 := zb5 ho hh (cHds c.s) hok.ch (z2o c.vo)
 have en : nhR ho (cHds c.s) (z2o c.vo) = [.agg (hdE (clHd ho c)), .bool true] := by
  unfold nhR
  exact if_pos ⟨by rw [z3x]; exact (h.ya ha).1, hr⟩
 rw [en] at c3
 have c4 := za5 ho hh
 have c5 := ziX (z0j ho) (clHd ho c) (z5s ho) gh
 have eg : z4o (z0j ho) (z0g (z0j ho) 16) ((clHd ho c).ep - 1) (z1G (clHd ho c)) = clSg ho c := rfl
 rw [eg] at c5
 have c6 := za4 (clHd ho c) (clSg ho c) gh gs
 have c7 := z7w c.s.ty (by omega)
 have hb := z8O (n := c.s.ty) (by omega) gh gs
 have hsz : (logB (c.ts ++ [cloB c.s.ty (clHd ho c) (clSg ho c)])).length ≤ 18000 := by
  have q1 := z1V (ts := c.ts) (t := cloB c.s.ty (clHd ho c) (clSg ho c)) (by omega)
  have q2 := h.lg.small hh hm
  omega
 have c8 := z7U (ho : Int) (K : Int) (z0g (z0j ho) 16) c.ts c.s.ty true (slE c.s.se) (ntE c.s.tr) (strE c.vo) (boE c.dn) (cloB c.s.ty (clHd ho c) (clSg ho c)) (by omega) hsz
 have ec : cloB c.s.ty (clHd ho c) (clSg ho c) = [2] ++ z0e c.s.ty ++ z1C (clHd ho c) (clSg ho c) := by simp [cloB]
 have c9 := zbo (ho : Int) K hK (z0g (z0j ho) 16) (cloC ho K c).ts c.s.ty true (slE c.s.se ++ [hdE (clHd ho c) ++ sgE (clSg ho c)]) (ntE c.s.tr ++ [[.int .i64 (c.s.ty : Int)]]) (strE c.vo) (boE c.dn)
 have c10 := z8S (ho : Int) K hK true false (flE (dkOf coordN (cloC ho K c).ts)) (strE (z0g (z0j ho) 16)) (slE c.s.se ++ [hdE (clHd ho c) ++ sgE (clSg ho c)]) (ntE c.s.tr ++ [[.int .i64 (c.s.ty : Int)]]) (emV (2 ^ K)) (emD (2 ^ K)) (c.s.ty : Int) 4 ((c.s.se.length + 1 : Nat) : Int) (c.s.ty : Int)
 have hOw : ∀ e ∈ [Ent.row 6 (ltsE 4 ((c.s.se.length + 1 : Nat) : Int) (c.s.ty : Int) (2 ^ K))], ownE e := fun e he => by
  rw [List.mem_singleton.1 he]; exact zbd _ _ _ _
 have hOh : ∀ e ∈ [Ent.row 4 (hdsE (c.s.se.map fun x => x.1))], ownE e := fun e he => by
  rw [List.mem_singleton.1 he]; exact z8L _
 have hse := z0B c.s.se
 have htr : (ntE c.s.tr).length ≤ 10 := by rw [z7A, hok.tl]; omega
 have hv10 : c.vo.length ≤ 10 := by omega
 have hvl := z0d c.vo
 have hne : ∀ i (hi : i < c.vo.length), ¬ c.vo[i] = [] := fun i hi e => hv (e ▸ List.getElem_mem hi)
 have hgi : ∀ i (hi : i < c.vo.length), (strE c.vo)[i]? = some [.str c.vo[i]] := fun i hi => by simp [strE, List.getElem?_eq_getElem hi]
 have eS : slE (cloC ho K c).s.se = slE c.s.se ++ [hdE (clHd ho c) ++ sgE (clSg ho c)] := zaZ _ _
 have eT : ntE (cloC ho K c).s.tr = ntE c.s.tr ++ [[.int .i64 (c.s.ty : Int)]] := zhP _ _
 have eD : (cloC ho K c).ts = c.ts ++ [cloB c.s.ty (clHd ho c) (clSg ho c)] := rfl
 have ecd : cHds c.s = c.s.se.map fun x => x.1 := rfl
 rw [eS, eT, eD]
 rw [eD] at c9 c10
 rw [← ecd] at c2 hOh
 have hvt : (z0e c.s.ty).length ≤ 11 := by have := z0I (n := c.s.ty) (by omega); omega
 have hsb : (z1C (clHd ho c) (clSg ho c)).length ≤ 460 := z6I gh gs
 rw [ec] at c8 c9 c10 ⊢
 unfold coH
 rw [ha]
 unfold coB at *
 clear hsz hb ec en eg hcN hw hr gs hv hvl2 h
 clear eS eT eD ecd
 generalize dkOf coordN (c.ts ++ [[2] ++ z0e c.s.ty ++ z1C (clHd ho c) (clSg ho c)]) = d2 at *
 generalize dkOf coordN c.ts = d0 at *
 generalize hdsE (cHds c.s) = HS at *
 generalize z1C (clHd ho c) (clSg ho c) = SB at *
 unfold hdE sgE at *
 generalize clSg ho c = sg at *
 generalize clHd ho c = hd at *
 generalize slE c.s.se = SE at *
 generalize ntE c.s.tr = TR at *
 generalize boE c.dn = DN at *
 generalize strE (z0g (z0j ho) 16) = PO at *
 generalize z0j ho = sd at *
 generalize z2o c.vo = rt at *
 generalize hslq : c.s.se.length = sl at *
 generalize z0e c.s.ty = vt at *
 generalize c.s.ty = y at *
 generalize c.vo = vo at *
 unfold emV emD at *
 generalize 2 ^ K = pk at c9 c10 e2 hOw ⊢
 clear hslq hok gh
 refine z01 z0r 6 rfl Tryz.func98 rfl rfl rfl ?_
 conv => arg 6; whnf
 repeat ((try conv => whnf); first | (with_reducible first | refine z0c (fun Qs hN hE hR => ?_) | refine z0a ?_ | refine z03 (fun Qb kN kE kX kR => ?_) | refine z06 ?_ | refine z07 ?_ | refine z0b ?_ | refine z08 ?_ | refine z09 ?_ | (show W _ _ _ (.cond _ _ _) _ _; refine z05 rfl ?_) | (refine hN _ ?_; try clear hN hE hR Qs; (try (conv => arg 6; dsimp only [ovl, List.set, List.map, ren0]))) | ((first | refine hE _ _ ?_ | refine hR _ ?_); try clear hN hE hR Qs) | ((first | refine kN _ ?_ | refine kE _ ?_ | refine kX _ _ rfl ?_ | refine kR _ ?_); try clear kN kE kX kR Qb)) | (refine And.intro (by kernel_rfl) ?_) | (refine stpQ ?_))
 refine z11 Nat (fun i => ⟨[(0, .ptr 1 0 0), (3, .int .i64 (i : Int))], [(1, some (.box [.int .i64 (ho : Int), .int .i64 (K : Int), .bool true, .sl 3 (flE d0), .sl 1 PO, .ref 2, .ref 3, .int .i64 (y : Int), .bool true, .ref 4, .ref 5])), (2, some (.row 8 SE)), (3, some (.row 1 TR)), (4, some (.row 1 (strE vo))), (5, some (.row 1 DN))], 6⟩) (fun i => i ≤ vo.length) (fun i => vo.length - i) 0 (Nat.zero_le _) ?_ ?_
 ·(refine z02 (by rfl) ?_ ?_) <;> (repeat' (first | (exact eqA) | (refine And.intro ?_ ?_) | ((fail_if_success (with_reducible (show _ = _))); (show _ = _)))) <;> first | rfl | decide
 ·intro Q1 hQ1 i hi
  by_cases hlt : i < vo.length
  ·have f1 : (i : Int) < ((vo.length : Nat) : Int) := by omega
   have gi := hgi i hlt
   have f2 : i < (strE vo).length := by omega
   have f3 : ¬ vo[i] = [] := hne i hlt
   clear hgi hne c1 c2 c3 c4 c5 c6 c7 c8 c9 c10
   generalize vo[i] = z at *
   repeat ((try conv => whnf); first | (with_reducible first | refine z0c (fun Qs hN hE hR => ?_) | refine z0a ?_ | refine z03 (fun Qb kN kE kX kR => ?_) | refine z06 ?_ | refine z07 ?_ | refine z0b ?_ | refine z08 ?_ | refine z09 ?_ | (show W _ _ _ (.cond _ _ _) _ _; refine z05 rfl ?_) | (refine hN _ ?_; try clear hN hE hR Qs; (try (conv => arg 6; dsimp only [ovl, List.set, List.map, ren0]))) | ((first | refine hE _ _ ?_ | refine hR _ ?_); try clear hN hE hR Qs) | ((first | refine kN _ ?_ | refine kE _ ?_ | refine kX _ _ rfl ?_ | refine kR _ ?_); try clear kN kE kX kR Qb)) | (refine Exists.intro vo.length (And.intro hvl ?_)) | (refine z0k f1 ?_) | (refine i_lt f2 ?_) | (refine Exists.intro _ (And.intro gi ?_)) | (refine z0o f3 ?_) | (refine And.intro (by kernel_rfl) ?_) | (refine stpQ ?_))
   refine ⟨i + 1, hlt, by omega, ?_⟩
   (refine z02 (by rfl) ?_ ?_) <;> (repeat' (first | (exact eqA) | (refine And.intro ?_ ?_) | ((fail_if_success (with_reducible (show _ = _))); (show _ = _)))) <;> rfl
  ·obtain rfl : i = vo.length := by omega
   have f1 : ¬ ((vo.length : Nat) : Int) < ((vo.length : Nat) : Int) := by omega
   clear hgi hne
   repeat ((try conv => whnf); first | (with_reducible first | refine z0c (fun Qs hN hE hR => ?_) | refine z0a ?_ | refine z03 (fun Qb kN kE kX kR => ?_) | refine z06 ?_ | refine z07 ?_ | refine z0b ?_ | refine z08 ?_ | refine z09 ?_ | (show W _ _ _ (.cond _ _ _) _ _; refine z05 rfl ?_) | (refine hN _ ?_; try clear hN hE hR Qs; (try (conv => arg 6; dsimp only [ovl, List.set, List.map, ren0]))) | ((first | refine hE _ _ ?_ | refine hR _ ?_); try clear hN hE hR Qs) | ((first | refine kN _ ?_ | refine kE _ ?_ | refine kX _ _ rfl ?_ | refine kR _ ?_); try clear kN kE kX kR Qb)) | (refine Exists.intro vo.length (And.intro hvl ?_)) | (refine z0o f1 ?_) | (refine And.intro (by kernel_rfl) ?_) | (refine stpQ ?_))
   refine hQ1 _ _ ?_
   clear hQ1 Q1
   generalize strE vo = VO at *
   repeat ((try conv => whnf); first | (with_reducible first | refine z0c (fun Qs hN hE hR => ?_) | refine z0a ?_ | refine z03 (fun Qb kN kE kX kR => ?_) | refine z06 ?_ | refine z07 ?_ | refine z0b ?_ | refine z08 ?_ | refine z09 ?_ | (show W _ _ _ (.cond _ _ _) _ _; refine z05 rfl ?_) | (refine hN _ ?_; try clear hN hE hR Qs; (try (conv => arg 6; dsimp only [ovl, List.set, List.map, ren0]))) | ((first | refine hE _ _ ?_ | refine hR _ ?_); try clear hN hE hR Qs) | ((first | refine kN _ ?_ | refine kE _ ?_ | refine kX _ _ rfl ?_ | refine kR _ ?_); try clear kN kE kX kR Qb)) | (refine ccA ([]) (c1) ?_) | (refine ccA [] (c2) ?_ (h5 := .inr (And.intro (by simp [own2, own1, own0]) hOh))) | (refine ccA ([]) (c3) ?_) | (refine ccA ([]) (c4) ?_) | (refine ccA ([]) (c5) ?_) | (refine ccA ([]) (c6) ?_) | (refine ccA ([]) (c7) ?_) | (refine ccB ([1, 2, 3, 4, 5]) (c8) ?_) | (refine ccB ([_, _, _, _, _]) (c9) ?_) | (refine Exists.intro (sl + 1) (And.intro (by rw [List.length_append, hse]; rfl) ?_)) | (refine Exists.intro sl (And.intro hse ?_)) | (refine ccA [] (c10) ?_ (h5 := .inr (And.intro (by simp [own2, own1, own0]) hOw))) | (refine And.intro (by simp only [List.length_append, List.length_set, List.length_replicate, List.length_cons, List.length_nil, List.nil_append]; omega) ?_) | (refine And.intro (by kernel_rfl) ?_) | (refine stpQ ?_))
   (refine z00 (by rfl) ?_ ?_ (by rfl)) <;> (repeat' (first | (exact eqA) | (refine And.intro ?_ ?_) | ((fail_if_success (with_reducible (show _ = _))); (show _ = _)))) <;> first | rfl | (simp; done)
end
end Go.Proofs.YtkjjacndfieeoaaGreatDoor
