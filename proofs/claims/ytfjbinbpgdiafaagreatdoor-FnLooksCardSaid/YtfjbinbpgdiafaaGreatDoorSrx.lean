/- Functions by content: a shard of the reference hears a letter. Functions by content: a shard of the reference hears any letter. -/
import Derived.Test.YtfjbinbpgdiafaaGreatDoorDk
import Derived.Test.YtfjbinbpgdiafaaGreatDoorPlh
import Derived.Test.YtfjbinbpgdiafaaGreatDoorShr
import Derived.Test.YtfjbinbpgdiafaaGreatDoorLA
namespace Go.Proofs.YtfjbinbpgdiafaaGreatDoor
set_option maxRecDepth 100000
set_option maxHeartbeats 8000000
set_option linter.unusedVariables false
set_option linter.unusedSimpArgs false
set_option linter.unusedSectionVars false
open Go.RowKit Pl
def voteR (a K : Nat) (s : Sv) : Bs := z0A (z1N s) 16 (8 - K) a
def z3x (a K : Nat) (s : Sv) : List T := [.int .i64 2, .int .i64 ((a + 1 : Nat) : Int), .int .i64 0, .int .i64 (s.re : Int), .int .i64 (s.rt : Int), .str (voteR a K s)]
def zcv (a e y : Nat) : List T := [.int .i64 5, .int .i64 ((a + 1 : Nat) : Int), .int .i64 0, .int .i64 (e : Int), .int .i64 (y : Int), .str []]
def zal (a K : Nat) (s : Sv) (e y : Nat) : Hr → List (List T)
 | .vote => [z3x a K s]
 | .prep => [z3x a K (z0L s e y .prep)]
 | .done => [zcv a e y]
 | .com => [zcv a e y]
 | _ => []
theorem z0y (a K : Int) (up : Bool) (fs : List Fl) (V : List (List T)) (s : Sv) : svH a K up fs V s .no = [.box [.int .i64 a, .int .i64 K, .bool up, .sl 3 (flE fs), .int .i64 (s.ep : Int), .ref 2, .ref 3, .ref 4, .int .i64 (s.re : Int), .int .i64 (s.rt : Int), .int .i64 (s.rk : Int)], .row 1 V, .row 1 (ntE s.tk), .row 3 (chE s.al)] := rfl
section
attribute [local irreducible] z0r z0s z0z AnsP LeP W CvE z0A
theorem z99 (a K : Nat) (up : Bool) (fs : List Fl) (V : List (List T)) (s : Sv) {n : Nat} (g : SvOk n s) (hn : n ≤ 30000) (hK : K ≤ 2) (ha : a < 2 ^ K) : CT Tryz.prog 182 [] [.agg (svE (a : Int) (K : Int) up fs V s)] (.ref 1) [.row 6 [z3x a K s]] := by
 have g5 := g.rk
 have g4 := g.al
 have c1 := z3E (a : Int) (K : Int) up fs V s ⟨g5, by omega⟩ g.ch
 have c2 := z4t (z1N s) K a (z8O s) hK ha
 have hp : (2 : Nat) ^ K ≤ 4 := by rcases (show K = 0 ∨ K = 1 ∨ K = 2 by omega) with h | h | h <;> subst h <;> decide
 unfold z3x voteR svE at *
 generalize z0A (z1N s) 16 (8 - K) a = R at *
 generalize lvE (z1N s) = L at *
 refine z01 z0i 1 rfl Tryz.func182 rfl rfl rfl ?_
 conv => arg 6; whnf
 repeat ((try conv => whnf); first | (with_reducible first | refine z0f (fun Qs hN hE hR => ?_) | refine z0d ?_ | refine z04 (fun Qb kN kE kX kR => ?_) | refine z06 ?_ | refine z07 ?_ | refine z0e ?_ | refine z08 ?_ | refine z09 ?_ | (show W _ _ _ (.cond _ _ _) _ _; refine z05 rfl ?_) | (refine hN _ ?_; try clear hN hE hR Qs; (try (conv => arg 6; dsimp only [ovl, List.set, List.map, ren0]))) | ((first | refine hE _ _ ?_ | refine hR _ ?_); try clear hN hE hR Qs) | ((first | refine kN _ ?_ | refine kE _ ?_ | refine kX _ _ rfl ?_ | refine kR _ ?_); try clear kN kE kX kR Qb)) | (refine ccA ([]) (c1) ?_) | (refine ccA ([]) (c2) ?_) | (refine And.intro (by kernel_rfl) ?_) | (refine stpQ ?_))
 (refine z00 (by rfl) ?_ ?_ (by rfl)) <;> (repeat' (first | (exact eqA) | (refine And.intro ?_ ?_) | ((fail_if_success (with_reducible (show _ = _))); (show _ = _)))) <;> rfl
theorem zam (a K : Nat) (V : List (List T)) (ts : List Bs) (s : Sv) {n : Nat} (g : SvOk n s) (hn : n ≤ 1000) (hK : K ≤ 2) (ha : a < 2 ^ K) (k f t : Int) (e y : Nat) (r : Bs) (he : ¬ (e : Int) = (s.ep : Int) + 1) : CT Tryz.prog 156 (svH (a : Int) (K : Int) true (dkOf shardN ts) V s .no) [.ptr 1 0 0, .agg (ltL k f t (e : Int) (y : Int) r)] (.ref 5) (svH (a : Int) (K : Int) true (dkOf shardN ts) V s .no ++ [.row 6 []]) := by
 have g5 := g.rk
 have g4 := g.al
 have hcl := z0R s.al
 have g1 := g.ep
 have e1 : IntKind.i64.wrap ((s.ep : Int) + 1) = (s.ep : Int) + 1 := by rw [wrap_i64 (by omega) (by omega)]
 simp only [z0y, svE, ltL, List.cons_append, List.nil_append] at *
 refine z01 z0i 5 rfl Tryz.func156 rfl rfl rfl ?_
 conv => arg 6; whnf
 repeat ((try conv => whnf); first | (with_reducible first | refine z0f (fun Qs hN hE hR => ?_) | refine z0d ?_ | refine z04 (fun Qb kN kE kX kR => ?_) | refine z06 ?_ | refine z07 ?_ | refine z0e ?_ | refine z08 ?_ | refine z09 ?_ | (show W _ _ _ (.cond _ _ _) _ _; refine z05 rfl ?_) | (refine hN _ ?_; try clear hN hE hR Qs; (try (conv => arg 6; dsimp only [ovl, List.set, List.map, ren0]))) | ((first | refine hE _ _ ?_ | refine hR _ ?_); try clear hN hE hR Qs) | ((first | refine kN _ ?_ | refine kE _ ?_ | refine kX _ _ rfl ?_ | refine kR _ ?_); try clear kN kE kX kR Qb)) | (refine Exists.intro _ (And.intro e1.symm ?_)) | (refine z2M he ?_) | (refine And.intro (by simp only [List.length_append, List.length_set, List.length_replicate, List.length_cons, List.length_nil, List.nil_append]; omega) ?_) | (refine And.intro (by kernel_rfl) ?_) | (refine stpQ ?_))
 (refine z00 (by rfl) ?_ ?_ (by rfl)) <;> (repeat' (first | (exact eqA) | (refine And.intro ?_ ?_) | ((fail_if_success (with_reducible (show _ = _))); (show _ = _)))) <;> rfl
theorem zan (a K : Nat) (V : List (List T)) (ts : List Bs) (s : Sv) {n : Nat} (g : SvOk n s) (hn : n ≤ 1000) (hK : K ≤ 2) (ha : a < 2 ^ K) (k f t : Int) (e y : Nat) (r : Bs) (he : (e : Int) = (s.ep : Int) + 1) (hy : (y : Int) < (s.rt : Int)) : CT Tryz.prog 156 (svH (a : Int) (K : Int) true (dkOf shardN ts) V s .no) [.ptr 1 0 0, .agg (ltL k f t (e : Int) (y : Int) r)] (.ref 5) (svH (a : Int) (K : Int) true (dkOf shardN ts) V s .no ++ [.row 6 []]) := by
 have g5 := g.rk
 have g4 := g.al
 have hcl := z0R s.al
 have g1 := g.ep
 have e1 : IntKind.i64.wrap ((s.ep : Int) + 1) = (s.ep : Int) + 1 := by rw [wrap_i64 (by omega) (by omega)]
 simp only [z0y, svE, ltL, List.cons_append, List.nil_append] at *
 refine z01 z0i 5 rfl Tryz.func156 rfl rfl rfl ?_
 conv => arg 6; whnf
 repeat ((try conv => whnf); first | (with_reducible first | refine z0f (fun Qs hN hE hR => ?_) | refine z0d ?_ | refine z04 (fun Qb kN kE kX kR => ?_) | refine z06 ?_ | refine z07 ?_ | refine z0e ?_ | refine z08 ?_ | refine z09 ?_ | (show W _ _ _ (.cond _ _ _) _ _; refine z05 rfl ?_) | (refine hN _ ?_; try clear hN hE hR Qs; (try (conv => arg 6; dsimp only [ovl, List.set, List.map, ren0]))) | ((first | refine hE _ _ ?_ | refine hR _ ?_); try clear hN hE hR Qs) | ((first | refine kN _ ?_ | refine kE _ ?_ | refine kX _ _ rfl ?_ | refine kR _ ?_); try clear kN kE kX kR Qb)) | (refine Exists.intro _ (And.intro e1.symm ?_)) | (refine z1g he ?_) | (refine z0h hy ?_) | (refine And.intro (by simp only [List.length_append, List.length_set, List.length_replicate, List.length_cons, List.length_nil, List.nil_append]; omega) ?_) | (refine And.intro (by kernel_rfl) ?_) | (refine stpQ ?_))
 (refine z00 (by rfl) ?_ ?_ (by rfl)) <;> (repeat' (first | (exact eqA) | (refine And.intro ?_ ?_) | ((fail_if_success (with_reducible (show _ = _))); (show _ = _)))) <;> rfl
theorem z9a (a K : Nat) (V : List (List T)) (ts : List Bs) (s : Sv) {n : Nat} (g : SvOk n s) (hn : n ≤ 1000) (hK : K ≤ 2) (ha : a < 2 ^ K) (k f t : Int) (e y : Nat) (r : Bs) (he : (e : Int) = (s.ep : Int) + 1) (hy : ¬ (y : Int) < (s.rt : Int)) (hy2 : ¬ (s.rt : Int) < (y : Int)) : CT Tryz.prog 156 (svH (a : Int) (K : Int) true (dkOf shardN ts) V s .no) [.ptr 1 0 0, .agg (ltL k f t (e : Int) (y : Int) r)] (.ref 5) (svH (a : Int) (K : Int) true (dkOf shardN ts) V s .no ++ [.row 6 [z3x a K s]]) := by
 have g5 := g.rk
 have g4 := g.al
 have hcl := z0R s.al
 have g1 := g.ep
 have e1 : IntKind.i64.wrap ((s.ep : Int) + 1) = (s.ep : Int) + 1 := by rw [wrap_i64 (by omega) (by omega)]
 have c1 := z99 a K true (dkOf shardN ts) V s g (by omega) hK ha
 have o1 : ∀ x ∈ [Ent.row 6 [z3x a K s]], ownE x := fun x hx => by
  rw [List.mem_singleton.1 hx]
  intro z hz c hc
  rw [List.mem_singleton] at hz
  subst hz
  simp only [z3x, List.mem_cons, List.not_mem_nil, or_false] at hc
  rcases hc with rfl | rfl | rfl | rfl | rfl | rfl <;> trivial
 generalize z3x a K s = vt at *
 simp only [z0y, svE, ltL, List.cons_append, List.nil_append] at *
 refine z01 z0i 5 rfl Tryz.func156 rfl rfl rfl ?_
 conv => arg 6; whnf
 repeat ((try conv => whnf); first | (with_reducible first | refine z0f (fun Qs hN hE hR => ?_) | refine z0d ?_ | refine z04 (fun Qb kN kE kX kR => ?_) | refine z06 ?_ | refine z07 ?_ | refine z0e ?_ | refine z08 ?_ | refine z09 ?_ | (show W _ _ _ (.cond _ _ _) _ _; refine z05 rfl ?_) | (refine hN _ ?_; try clear hN hE hR Qs; (try (conv => arg 6; dsimp only [ovl, List.set, List.map, ren0]))) | ((first | refine hE _ _ ?_ | refine hR _ ?_); try clear hN hE hR Qs) | ((first | refine kN _ ?_ | refine kE _ ?_ | refine kX _ _ rfl ?_ | refine kR _ ?_); try clear kN kE kX kR Qb)) | (refine Exists.intro _ (And.intro e1.symm ?_)) | (refine z1g he ?_) | (refine z0c hy ?_) | (refine z0c hy2 ?_) | (refine ccA [] (c1) ?_ (h5 := .inr (And.intro (by simp [own2, own1, own0]) o1))) | (refine And.intro (by simp only [List.length_append, List.length_set, List.length_replicate, List.length_cons, List.length_nil, List.nil_append]; omega) ?_) | (refine And.intro (by kernel_rfl) ?_) | (refine stpQ ?_))
 (refine z00 (by rfl) ?_ ?_ (by rfl)) <;> (repeat' (first | (exact eqA) | (refine And.intro ?_ ?_) | ((fail_if_success (with_reducible (show _ = _))); (show _ = _)))) <;> rfl
theorem z9b (a K : Nat) (V : List (List T)) (ts : List Bs) (s : Sv) {n : Nat} (g : SvOk n s) (hn : n ≤ 1000) (hK : K ≤ 2) (ha : a < 2 ^ K) (k f t : Int) (e y : Nat) (r : Bs) (he : (e : Int) = (s.ep : Int) + 1) (hy2 : (s.rt : Int) < (y : Int)) (hy3 : y ≤ 1000) (hr : Rec 89 ts) (g2 : SvOk n { s with re := e, rt := y, rk := s.al.length }) : CT Tryz.prog 156 (svH (a : Int) (K : Int) true (dkOf shardN ts) V s .no) [.ptr 1 0 0, .agg (ltL k f t (e : Int) (y : Int) r)] (.ref 5) (svH (a : Int) (K : Int) true (dkOf shardN (ts ++ [2 :: (z03 e ++ z03 y ++ z03 s.al.length)])) V { s with re := e, rt := y, rk := s.al.length } .no ++ [.row 6 [z3x a K { s with re := e, rt := y, rk := s.al.length }]]) := by
 have g5 := g.rk
 have g4 := g.al
 have hcl := z0R s.al
 have g1 := g.ep
 have hy : ¬ (y : Int) < (s.rt : Int) := by omega
 have e1 : IntKind.i64.wrap ((s.ep : Int) + 1) = (s.ep : Int) + 1 := by rw [wrap_i64 (by omega) (by omega)]
 have c1 := z99 a K true (dkOf shardN (ts ++ [2 :: (z03 e ++ z03 y ++ z03 s.al.length)])) V _ g2 (by omega) hK ha
 have o1 : ∀ x ∈ [Ent.row 6 [z3x a K { s with re := e, rt := y, rk := s.al.length }]], ownE x := fun x hx => by
  rw [List.mem_singleton.1 hx]
  intro z hz c hc
  rw [List.mem_singleton] at hz
  subst hz
  simp only [z3x, List.mem_cons, List.not_mem_nil, or_false] at hc
  rcases hc with rfl | rfl | rfl | rfl | rfl | rfl <;> trivial
 have rn := z3o (k := 2) (x := e) (y := y) (z := s.al.length) ⟨by omega, by omega, by omega⟩
 have c2 := z3r (a : Int) (K : Int) true V s (2 :: (z03 e ++ z03 y ++ z03 s.al.length)) ts rn.1 hr
 have v1 := z4n e (by omega)
 have v2 := z4n y (by omega)
 have v3 := z4n s.al.length (by omega)
 have eT : (2 :: (z03 e ++ z03 y ++ z03 s.al.length) : Bs) = [2] ++ z03 e ++ z03 y ++ z03 s.al.length := by simp
 have rl := rn.1.2
 simp only [List.length_cons, List.length_append] at rl
 rw [eT] at c1 c2 ⊢
 clear rn eT
 generalize z3x a K { s with re := e, rt := y, rk := s.al.length } = vt at *
 generalize hal : s.al.length = m at *
 generalize dkOf shardN (ts ++ [[2] ++ z03 e ++ z03 y ++ z03 m]) = d2 at *
 generalize z03 e = ve at *
 generalize z03 y = vy at *
 generalize z03 m = vm at *
 clear hr g2
 simp only [z0y, svE, ltL, List.cons_append, List.nil_append] at *
 refine z01 z0i 5 rfl Tryz.func156 rfl rfl rfl ?_
 conv => arg 6; whnf
 repeat ((try conv => whnf); first | (with_reducible first | refine z0f (fun Qs hN hE hR => ?_) | refine z0d ?_ | refine z04 (fun Qb kN kE kX kR => ?_) | refine z06 ?_ | refine z07 ?_ | refine z0e ?_ | refine z08 ?_ | refine z09 ?_ | (show W _ _ _ (.cond _ _ _) _ _; refine z05 rfl ?_) | (refine hN _ ?_; try clear hN hE hR Qs; (try (conv => arg 6; dsimp only [ovl, List.set, List.map, ren0]))) | ((first | refine hE _ _ ?_ | refine hR _ ?_); try clear hN hE hR Qs) | ((first | refine kN _ ?_ | refine kE _ ?_ | refine kX _ _ rfl ?_ | refine kR _ ?_); try clear kN kE kX kR Qb)) | (refine Exists.intro _ (And.intro e1.symm ?_)) | (refine z1g he ?_) | (refine z0c hy ?_) | (refine z0h hy2 ?_) | (refine ccA ([]) (v1) ?_) | (refine ccA ([]) (v2) ?_) | (refine Exists.intro m (And.intro hcl ?_)) | (refine ccA ([]) (v3) ?_) | (refine ccB ([_, _, _, _]) (c2) ?_) | (refine ccA [] (c1) ?_ (h5 := .inr (And.intro (by simp [own2, own1, own0]) o1))) | (refine And.intro (by simp only [List.length_append, List.length_set, List.length_replicate, List.length_cons, List.length_nil, List.nil_append]; omega) ?_) | (refine And.intro (by kernel_rfl) ?_) | (refine stpQ ?_))
 (refine z00 (by rfl) ?_ ?_ (by rfl)) <;> (repeat' (first | (exact eqA) | (refine And.intro ?_ ?_) | ((fail_if_success (with_reducible (show _ = _))); (show _ = _)))) <;> rfl
theorem zao (a K : Nat) (V : List (List T)) (ts : List Bs) (s : Sv) {n : Nat} (g : SvOk n s) (hn : n ≤ 1000) (hK : K ≤ 2) (ha : a < 2 ^ K) (k f t : Int) (e y : Int) (r : Bs) (ho : z0a k f t e y r = false) : CT Tryz.prog 101 (svH (a : Int) (K : Int) true (dkOf shardN ts) V s .no) [.ptr 1 0 0, .agg (ltL k f t (e : Int) (y : Int) r)] (.ref 5) (svH (a : Int) (K : Int) true (dkOf shardN ts) V s .no ++ [.row 6 []]) := by
 have hp : (2 : Nat) ^ K ≤ 4 := by rcases (show K = 0 ∨ K = 1 ∨ K = 2 by omega) with h | h | h <;> subst h <;> decide
 have g4 := g.al
 have hcl := z0R s.al
 have cO := z0U k f t (e : Int) (y : Int) r
 have ea : IntKind.i64.wrap ((a : Int) + 1) = ((a + 1 : Nat) : Int) := by rw [wrap_i64 (by omega) (by omega)]; omega
 rw [ho] at cO
 simp only [z0y, ltL, List.cons_append, List.nil_append] at cO ⊢
 (try simp only [z0y, ltL, List.cons_append, List.nil_append] at cP)
 (try simp only [z0y] at c2)
 refine z01 z0i 5 rfl Tryz.func101 rfl rfl rfl ?_
 conv => arg 6; whnf
 repeat ((try conv => whnf); first | (with_reducible first | refine z0f (fun Qs hN hE hR => ?_) | refine z0d ?_ | refine z04 (fun Qb kN kE kX kR => ?_) | refine z06 ?_ | refine z07 ?_ | refine z0e ?_ | refine z08 ?_ | refine z09 ?_ | (show W _ _ _ (.cond _ _ _) _ _; refine z05 rfl ?_) | (refine hN _ ?_; try clear hN hE hR Qs; (try (conv => arg 6; dsimp only [ovl, List.set, List.map, ren0]))) | ((first | refine hE _ _ ?_ | refine hR _ ?_); try clear hN hE hR Qs) | ((first | refine kN _ ?_ | refine kE _ ?_ | refine kX _ _ rfl ?_ | refine kR _ ?_); try clear kN kE kX kR Qb)) | (refine ccA ([]) (cO) ?_) | (refine Exists.intro _ (And.intro ea.symm ?_)) | (fail) | (refine And.intro (by simp only [List.length_append, List.length_set, List.length_replicate, List.length_cons, List.length_nil, List.nil_append]; omega) ?_) | (refine And.intro (by kernel_rfl) ?_) | (refine stpQ ?_))
 (refine z00 (by rfl) ?_ ?_ (by rfl)) <;> (repeat' (first | (exact eqA) | (refine And.intro ?_ ?_) | ((fail_if_success (with_reducible (show _ = _))); (show _ = _)))) <;> rfl
theorem zap (a K : Nat) (V : List (List T)) (ts : List Bs) (s : Sv) {n : Nat} (g : SvOk n s) (hn : n ≤ 1000) (hK : K ≤ 2) (ha : a < 2 ^ K) (k f t : Int) (e y : Int) (r : Bs) (ho : z0a k f t e y r = true) (ht : ¬ t = ((a + 1 : Nat) : Int)) : CT Tryz.prog 101 (svH (a : Int) (K : Int) true (dkOf shardN ts) V s .no) [.ptr 1 0 0, .agg (ltL k f t (e : Int) (y : Int) r)] (.ref 5) (svH (a : Int) (K : Int) true (dkOf shardN ts) V s .no ++ [.row 6 []]) := by
 have hp : (2 : Nat) ^ K ≤ 4 := by rcases (show K = 0 ∨ K = 1 ∨ K = 2 by omega) with h | h | h <;> subst h <;> decide
 have g4 := g.al
 have hcl := z0R s.al
 have cO := z0U k f t (e : Int) (y : Int) r
 have ea : IntKind.i64.wrap ((a : Int) + 1) = ((a + 1 : Nat) : Int) := by rw [wrap_i64 (by omega) (by omega)]; omega
 rw [ho] at cO
 simp only [z0y, ltL, List.cons_append, List.nil_append] at cO ⊢
 (try simp only [z0y, ltL, List.cons_append, List.nil_append] at cP)
 (try simp only [z0y] at c2)
 refine z01 z0i 5 rfl Tryz.func101 rfl rfl rfl ?_
 conv => arg 6; whnf
 repeat ((try conv => whnf); first | (with_reducible first | refine z0f (fun Qs hN hE hR => ?_) | refine z0d ?_ | refine z04 (fun Qb kN kE kX kR => ?_) | refine z06 ?_ | refine z07 ?_ | refine z0e ?_ | refine z08 ?_ | refine z09 ?_ | (show W _ _ _ (.cond _ _ _) _ _; refine z05 rfl ?_) | (refine hN _ ?_; try clear hN hE hR Qs; (try (conv => arg 6; dsimp only [ovl, List.set, List.map, ren0]))) | ((first | refine hE _ _ ?_ | refine hR _ ?_); try clear hN hE hR Qs) | ((first | refine kN _ ?_ | refine kE _ ?_ | refine kX _ _ rfl ?_ | refine kR _ ?_); try clear kN kE kX kR Qb)) | (refine ccA ([]) (cO) ?_) | (refine Exists.intro _ (And.intro ea.symm ?_)) | (refine z2M ht ?_) | (refine And.intro (by simp only [List.length_append, List.length_set, List.length_replicate, List.length_cons, List.length_nil, List.nil_append]; omega) ?_) | (refine And.intro (by kernel_rfl) ?_) | (refine stpQ ?_))
 (refine z00 (by rfl) ?_ ?_ (by rfl)) <;> (repeat' (first | (exact eqA) | (refine And.intro ?_ ?_) | ((fail_if_success (with_reducible (show _ = _))); (show _ = _)))) <;> rfl
theorem z80 (a K : Nat) (V : List (List T)) (ts : List Bs) (s : Sv) {n : Nat} (g : SvOk n s) (hn : n ≤ 1000) (hK : K ≤ 2) (ha : a < 2 ^ K) (k f t : Int) (e y : Nat) (r : Bs) (ho : z0a k f t (e : Int) (y : Int) r = true) (ht : t = ((a + 1 : Nat) : Int)) (hk : k = 1) (he : ¬ (e : Int) = (s.ep : Int) + 1) : CT Tryz.prog 101 (svH (a : Int) (K : Int) true (dkOf shardN ts) V s .no) [.ptr 1 0 0, .agg (ltL k f t (e : Int) (y : Int) r)] (.ref 5) (svH (a : Int) (K : Int) true (dkOf shardN ts) V s .no ++ [.row 6 []]) := by
 have hp : (2 : Nat) ^ K ≤ 4 := by rcases (show K = 0 ∨ K = 1 ∨ K = 2 by omega) with h | h | h <;> subst h <;> decide
 have g4 := g.al
 have hcl := z0R s.al
 have cO := z0U k f t (e : Int) (y : Int) r
 have ea : IntKind.i64.wrap ((a : Int) + 1) = ((a + 1 : Nat) : Int) := by rw [wrap_i64 (by omega) (by omega)]; omega
 rw [ho] at cO
 subst ht
 subst hk
 have ht0 : ((a + 1 : Nat) : Int) = ((a + 1 : Nat) : Int) := rfl
 have cP := zam a K V ts s g hn hK ha 1 f ((a + 1 : Nat) : Int) e y r he
 simp only [z0y, ltL, List.cons_append, List.nil_append] at cO ⊢
 (try simp only [z0y, ltL, List.cons_append, List.nil_append] at cP)
 (try simp only [z0y] at c2)
 by_cases me : (s.re : Int) = (e : Int)
 ·by_cases my : (s.rt : Int) = (y : Int)
  ·skip
   refine z01 z0i 5 rfl Tryz.func101 rfl rfl rfl ?_
   conv => arg 6; whnf
   repeat ((try conv => whnf); first | (with_reducible first | refine z0f (fun Qs hN hE hR => ?_) | refine z0d ?_ | refine z04 (fun Qb kN kE kX kR => ?_) | refine z06 ?_ | refine z07 ?_ | refine z0e ?_ | refine z08 ?_ | refine z09 ?_ | (show W _ _ _ (.cond _ _ _) _ _; refine z05 rfl ?_) | (refine hN _ ?_; try clear hN hE hR Qs; (try (conv => arg 6; dsimp only [ovl, List.set, List.map, ren0]))) | ((first | refine hE _ _ ?_ | refine hR _ ?_); try clear hN hE hR Qs) | ((first | refine kN _ ?_ | refine kE _ ?_ | refine kX _ _ rfl ?_ | refine kR _ ?_); try clear kN kE kX kR Qb)) | (refine ccA ([]) (cO) ?_) | (refine Exists.intro _ (And.intro ea.symm ?_)) | (refine z1g ht0 ?_) | (refine ccB ([_, _, _, _]) (cP) ?_) | (refine z0h me ?_) | (refine z0c me ?_) | (refine z0h my ?_) | (refine z0c my ?_) | (refine And.intro (by simp only [List.length_append, List.length_set, List.length_replicate, List.length_cons, List.length_nil, List.nil_append]; omega) ?_) | (refine And.intro (by kernel_rfl) ?_) | (refine stpQ ?_))
   (refine z00 (by rfl) ?_ ?_ (by rfl)) <;> (repeat' (first | (exact eqA) | (refine And.intro ?_ ?_) | ((fail_if_success (with_reducible (show _ = _))); (show _ = _)))) <;> rfl
  ·skip
   refine z01 z0i 5 rfl Tryz.func101 rfl rfl rfl ?_
   conv => arg 6; whnf
   repeat ((try conv => whnf); first | (with_reducible first | refine z0f (fun Qs hN hE hR => ?_) | refine z0d ?_ | refine z04 (fun Qb kN kE kX kR => ?_) | refine z06 ?_ | refine z07 ?_ | refine z0e ?_ | refine z08 ?_ | refine z09 ?_ | (show W _ _ _ (.cond _ _ _) _ _; refine z05 rfl ?_) | (refine hN _ ?_; try clear hN hE hR Qs; (try (conv => arg 6; dsimp only [ovl, List.set, List.map, ren0]))) | ((first | refine hE _ _ ?_ | refine hR _ ?_); try clear hN hE hR Qs) | ((first | refine kN _ ?_ | refine kE _ ?_ | refine kX _ _ rfl ?_ | refine kR _ ?_); try clear kN kE kX kR Qb)) | (refine ccA ([]) (cO) ?_) | (refine Exists.intro _ (And.intro ea.symm ?_)) | (refine z1g ht0 ?_) | (refine ccB ([_, _, _, _]) (cP) ?_) | (refine z0h me ?_) | (refine z0c me ?_) | (refine z0h my ?_) | (refine z0c my ?_) | (refine And.intro (by simp only [List.length_append, List.length_set, List.length_replicate, List.length_cons, List.length_nil, List.nil_append]; omega) ?_) | (refine And.intro (by kernel_rfl) ?_) | (refine stpQ ?_))
   (refine z00 (by rfl) ?_ ?_ (by rfl)) <;> (repeat' (first | (exact eqA) | (refine And.intro ?_ ?_) | ((fail_if_success (with_reducible (show _ = _))); (show _ = _)))) <;> rfl
 ·skip
  refine z01 z0i 5 rfl Tryz.func101 rfl rfl rfl ?_
  conv => arg 6; whnf
  repeat ((try conv => whnf); first | (with_reducible first | refine z0f (fun Qs hN hE hR => ?_) | refine z0d ?_ | refine z04 (fun Qb kN kE kX kR => ?_) | refine z06 ?_ | refine z07 ?_ | refine z0e ?_ | refine z08 ?_ | refine z09 ?_ | (show W _ _ _ (.cond _ _ _) _ _; refine z05 rfl ?_) | (refine hN _ ?_; try clear hN hE hR Qs; (try (conv => arg 6; dsimp only [ovl, List.set, List.map, ren0]))) | ((first | refine hE _ _ ?_ | refine hR _ ?_); try clear hN hE hR Qs) | ((first | refine kN _ ?_ | refine kE _ ?_ | refine kX _ _ rfl ?_ | refine kR _ ?_); try clear kN kE kX kR Qb)) | (refine ccA ([]) (cO) ?_) | (refine Exists.intro _ (And.intro ea.symm ?_)) | (refine z1g ht0 ?_) | (refine ccB ([_, _, _, _]) (cP) ?_) | (refine z0h me ?_) | (refine z0c me ?_) | (refine z0h my ?_) | (refine z0c my ?_) | (refine And.intro (by simp only [List.length_append, List.length_set, List.length_replicate, List.length_cons, List.length_nil, List.nil_append]; omega) ?_) | (refine And.intro (by kernel_rfl) ?_) | (refine stpQ ?_))
  (refine z00 (by rfl) ?_ ?_ (by rfl)) <;> (repeat' (first | (exact eqA) | (refine And.intro ?_ ?_) | ((fail_if_success (with_reducible (show _ = _))); (show _ = _)))) <;> rfl
theorem z81 (a K : Nat) (V : List (List T)) (ts : List Bs) (s : Sv) {n : Nat} (g : SvOk n s) (hn : n ≤ 1000) (hK : K ≤ 2) (ha : a < 2 ^ K) (k f t : Int) (e y : Nat) (r : Bs) (ho : z0a k f t (e : Int) (y : Int) r = true) (ht : t = ((a + 1 : Nat) : Int)) (hk : k = 1) (he : (e : Int) = (s.ep : Int) + 1) (hy : (y : Int) < (s.rt : Int)) : CT Tryz.prog 101 (svH (a : Int) (K : Int) true (dkOf shardN ts) V s .no) [.ptr 1 0 0, .agg (ltL k f t (e : Int) (y : Int) r)] (.ref 5) (svH (a : Int) (K : Int) true (dkOf shardN ts) V s .no ++ [.row 6 []]) := by
 have hp : (2 : Nat) ^ K ≤ 4 := by rcases (show K = 0 ∨ K = 1 ∨ K = 2 by omega) with h | h | h <;> subst h <;> decide
 have g4 := g.al
 have hcl := z0R s.al
 have cO := z0U k f t (e : Int) (y : Int) r
 have ea : IntKind.i64.wrap ((a : Int) + 1) = ((a + 1 : Nat) : Int) := by rw [wrap_i64 (by omega) (by omega)]; omega
 rw [ho] at cO
 subst ht
 subst hk
 have ht0 : ((a + 1 : Nat) : Int) = ((a + 1 : Nat) : Int) := rfl
 have cP := zan a K V ts s g hn hK ha 1 f ((a + 1 : Nat) : Int) e y r he hy
 simp only [z0y, ltL, List.cons_append, List.nil_append] at cO ⊢
 (try simp only [z0y, ltL, List.cons_append, List.nil_append] at cP)
 (try simp only [z0y] at c2)
 by_cases me : (s.re : Int) = (e : Int)
 ·by_cases my : (s.rt : Int) = (y : Int)
  ·skip
   refine z01 z0i 5 rfl Tryz.func101 rfl rfl rfl ?_
   conv => arg 6; whnf
   repeat ((try conv => whnf); first | (with_reducible first | refine z0f (fun Qs hN hE hR => ?_) | refine z0d ?_ | refine z04 (fun Qb kN kE kX kR => ?_) | refine z06 ?_ | refine z07 ?_ | refine z0e ?_ | refine z08 ?_ | refine z09 ?_ | (show W _ _ _ (.cond _ _ _) _ _; refine z05 rfl ?_) | (refine hN _ ?_; try clear hN hE hR Qs; (try (conv => arg 6; dsimp only [ovl, List.set, List.map, ren0]))) | ((first | refine hE _ _ ?_ | refine hR _ ?_); try clear hN hE hR Qs) | ((first | refine kN _ ?_ | refine kE _ ?_ | refine kX _ _ rfl ?_ | refine kR _ ?_); try clear kN kE kX kR Qb)) | (refine ccA ([]) (cO) ?_) | (refine Exists.intro _ (And.intro ea.symm ?_)) | (refine z1g ht0 ?_) | (refine ccB ([_, _, _, _]) (cP) ?_) | (refine z0h me ?_) | (refine z0c me ?_) | (refine z0h my ?_) | (refine z0c my ?_) | (refine And.intro (by simp only [List.length_append, List.length_set, List.length_replicate, List.length_cons, List.length_nil, List.nil_append]; omega) ?_) | (refine And.intro (by kernel_rfl) ?_) | (refine stpQ ?_))
   (refine z00 (by rfl) ?_ ?_ (by rfl)) <;> (repeat' (first | (exact eqA) | (refine And.intro ?_ ?_) | ((fail_if_success (with_reducible (show _ = _))); (show _ = _)))) <;> rfl
  ·skip
   refine z01 z0i 5 rfl Tryz.func101 rfl rfl rfl ?_
   conv => arg 6; whnf
   repeat ((try conv => whnf); first | (with_reducible first | refine z0f (fun Qs hN hE hR => ?_) | refine z0d ?_ | refine z04 (fun Qb kN kE kX kR => ?_) | refine z06 ?_ | refine z07 ?_ | refine z0e ?_ | refine z08 ?_ | refine z09 ?_ | (show W _ _ _ (.cond _ _ _) _ _; refine z05 rfl ?_) | (refine hN _ ?_; try clear hN hE hR Qs; (try (conv => arg 6; dsimp only [ovl, List.set, List.map, ren0]))) | ((first | refine hE _ _ ?_ | refine hR _ ?_); try clear hN hE hR Qs) | ((first | refine kN _ ?_ | refine kE _ ?_ | refine kX _ _ rfl ?_ | refine kR _ ?_); try clear kN kE kX kR Qb)) | (refine ccA ([]) (cO) ?_) | (refine Exists.intro _ (And.intro ea.symm ?_)) | (refine z1g ht0 ?_) | (refine ccB ([_, _, _, _]) (cP) ?_) | (refine z0h me ?_) | (refine z0c me ?_) | (refine z0h my ?_) | (refine z0c my ?_) | (refine And.intro (by simp only [List.length_append, List.length_set, List.length_replicate, List.length_cons, List.length_nil, List.nil_append]; omega) ?_) | (refine And.intro (by kernel_rfl) ?_) | (refine stpQ ?_))
   (refine z00 (by rfl) ?_ ?_ (by rfl)) <;> (repeat' (first | (exact eqA) | (refine And.intro ?_ ?_) | ((fail_if_success (with_reducible (show _ = _))); (show _ = _)))) <;> rfl
 ·skip
  refine z01 z0i 5 rfl Tryz.func101 rfl rfl rfl ?_
  conv => arg 6; whnf
  repeat ((try conv => whnf); first | (with_reducible first | refine z0f (fun Qs hN hE hR => ?_) | refine z0d ?_ | refine z04 (fun Qb kN kE kX kR => ?_) | refine z06 ?_ | refine z07 ?_ | refine z0e ?_ | refine z08 ?_ | refine z09 ?_ | (show W _ _ _ (.cond _ _ _) _ _; refine z05 rfl ?_) | (refine hN _ ?_; try clear hN hE hR Qs; (try (conv => arg 6; dsimp only [ovl, List.set, List.map, ren0]))) | ((first | refine hE _ _ ?_ | refine hR _ ?_); try clear hN hE hR Qs) | ((first | refine kN _ ?_ | refine kE _ ?_ | refine kX _ _ rfl ?_ | refine kR _ ?_); try clear kN kE kX kR Qb)) | (refine ccA ([]) (cO) ?_) | (refine Exists.intro _ (And.intro ea.symm ?_)) | (refine z1g ht0 ?_) | (refine ccB ([_, _, _, _]) (cP) ?_) | (refine z0h me ?_) | (refine z0c me ?_) | (refine z0h my ?_) | (refine z0c my ?_) | (refine And.intro (by simp only [List.length_append, List.length_set, List.length_replicate, List.length_cons, List.length_nil, List.nil_append]; omega) ?_) | (refine And.intro (by kernel_rfl) ?_) | (refine stpQ ?_))
  (refine z00 (by rfl) ?_ ?_ (by rfl)) <;> (repeat' (first | (exact eqA) | (refine And.intro ?_ ?_) | ((fail_if_success (with_reducible (show _ = _))); (show _ = _)))) <;> rfl
theorem z6D (a K : Nat) (V : List (List T)) (ts : List Bs) (s : Sv) {n : Nat} (g : SvOk n s) (hn : n ≤ 1000) (hK : K ≤ 2) (ha : a < 2 ^ K) (k f t : Int) (e y : Nat) (r : Bs) (ho : z0a k f t (e : Int) (y : Int) r = true) (ht : t = ((a + 1 : Nat) : Int)) (hk : k = 1) (he : (e : Int) = (s.ep : Int) + 1) (hy : ¬ (y : Int) < (s.rt : Int)) (hy2 : ¬ (s.rt : Int) < (y : Int)) : CT Tryz.prog 101 (svH (a : Int) (K : Int) true (dkOf shardN ts) V s .no) [.ptr 1 0 0, .agg (ltL k f t (e : Int) (y : Int) r)] (.ref 5) (svH (a : Int) (K : Int) true (dkOf shardN ts) V s .no ++ [.row 6 [z3x a K s]]) := by
 have hp : (2 : Nat) ^ K ≤ 4 := by rcases (show K = 0 ∨ K = 1 ∨ K = 2 by omega) with h | h | h <;> subst h <;> decide
 have g4 := g.al
 have hcl := z0R s.al
 have cO := z0U k f t (e : Int) (y : Int) r
 have ea : IntKind.i64.wrap ((a : Int) + 1) = ((a + 1 : Nat) : Int) := by rw [wrap_i64 (by omega) (by omega)]; omega
 rw [ho] at cO
 subst ht
 subst hk
 have ht0 : ((a + 1 : Nat) : Int) = ((a + 1 : Nat) : Int) := rfl
 have cP := z9a a K V ts s g hn hK ha 1 f ((a + 1 : Nat) : Int) e y r he hy hy2
 generalize z3x a K s = vt at *
 simp only [z0y, ltL, List.cons_append, List.nil_append] at cO ⊢
 (try simp only [z0y, ltL, List.cons_append, List.nil_append] at cP)
 (try simp only [z0y] at c2)
 by_cases me : (s.re : Int) = (e : Int)
 ·by_cases my : (s.rt : Int) = (y : Int)
  ·skip
   refine z01 z0i 5 rfl Tryz.func101 rfl rfl rfl ?_
   conv => arg 6; whnf
   repeat ((try conv => whnf); first | (with_reducible first | refine z0f (fun Qs hN hE hR => ?_) | refine z0d ?_ | refine z04 (fun Qb kN kE kX kR => ?_) | refine z06 ?_ | refine z07 ?_ | refine z0e ?_ | refine z08 ?_ | refine z09 ?_ | (show W _ _ _ (.cond _ _ _) _ _; refine z05 rfl ?_) | (refine hN _ ?_; try clear hN hE hR Qs; (try (conv => arg 6; dsimp only [ovl, List.set, List.map, ren0]))) | ((first | refine hE _ _ ?_ | refine hR _ ?_); try clear hN hE hR Qs) | ((first | refine kN _ ?_ | refine kE _ ?_ | refine kX _ _ rfl ?_ | refine kR _ ?_); try clear kN kE kX kR Qb)) | (refine ccA ([]) (cO) ?_) | (refine Exists.intro _ (And.intro ea.symm ?_)) | (refine z1g ht0 ?_) | (refine ccB ([_, _, _, _]) (cP) ?_) | (refine z0h me ?_) | (refine z0c me ?_) | (refine z0h my ?_) | (refine z0c my ?_) | (refine And.intro (by simp only [List.length_append, List.length_set, List.length_replicate, List.length_cons, List.length_nil, List.nil_append]; omega) ?_) | (refine And.intro (by kernel_rfl) ?_) | (refine stpQ ?_))
   (refine z00 (by rfl) ?_ ?_ (by rfl)) <;> (repeat' (first | (exact eqA) | (refine And.intro ?_ ?_) | ((fail_if_success (with_reducible (show _ = _))); (show _ = _)))) <;> rfl
  ·skip
   refine z01 z0i 5 rfl Tryz.func101 rfl rfl rfl ?_
   conv => arg 6; whnf
   repeat ((try conv => whnf); first | (with_reducible first | refine z0f (fun Qs hN hE hR => ?_) | refine z0d ?_ | refine z04 (fun Qb kN kE kX kR => ?_) | refine z06 ?_ | refine z07 ?_ | refine z0e ?_ | refine z08 ?_ | refine z09 ?_ | (show W _ _ _ (.cond _ _ _) _ _; refine z05 rfl ?_) | (refine hN _ ?_; try clear hN hE hR Qs; (try (conv => arg 6; dsimp only [ovl, List.set, List.map, ren0]))) | ((first | refine hE _ _ ?_ | refine hR _ ?_); try clear hN hE hR Qs) | ((first | refine kN _ ?_ | refine kE _ ?_ | refine kX _ _ rfl ?_ | refine kR _ ?_); try clear kN kE kX kR Qb)) | (refine ccA ([]) (cO) ?_) | (refine Exists.intro _ (And.intro ea.symm ?_)) | (refine z1g ht0 ?_) | (refine ccB ([_, _, _, _]) (cP) ?_) | (refine z0h me ?_) | (refine z0c me ?_) | (refine z0h my ?_) | (refine z0c my ?_) | (refine And.intro (by simp only [List.length_append, List.length_set, List.length_replicate, List.length_cons, List.length_nil, List.nil_append]; omega) ?_) | (refine And.intro (by kernel_rfl) ?_) | (refine stpQ ?_))
   (refine z00 (by rfl) ?_ ?_ (by rfl)) <;> (repeat' (first | (exact eqA) | (refine And.intro ?_ ?_) | ((fail_if_success (with_reducible (show _ = _))); (show _ = _)))) <;> rfl
 ·skip
  refine z01 z0i 5 rfl Tryz.func101 rfl rfl rfl ?_
  conv => arg 6; whnf
  repeat ((try conv => whnf); first | (with_reducible first | refine z0f (fun Qs hN hE hR => ?_) | refine z0d ?_ | refine z04 (fun Qb kN kE kX kR => ?_) | refine z06 ?_ | refine z07 ?_ | refine z0e ?_ | refine z08 ?_ | refine z09 ?_ | (show W _ _ _ (.cond _ _ _) _ _; refine z05 rfl ?_) | (refine hN _ ?_; try clear hN hE hR Qs; (try (conv => arg 6; dsimp only [ovl, List.set, List.map, ren0]))) | ((first | refine hE _ _ ?_ | refine hR _ ?_); try clear hN hE hR Qs) | ((first | refine kN _ ?_ | refine kE _ ?_ | refine kX _ _ rfl ?_ | refine kR _ ?_); try clear kN kE kX kR Qb)) | (refine ccA ([]) (cO) ?_) | (refine Exists.intro _ (And.intro ea.symm ?_)) | (refine z1g ht0 ?_) | (refine ccB ([_, _, _, _]) (cP) ?_) | (refine z0h me ?_) | (refine z0c me ?_) | (refine z0h my ?_) | (refine z0c my ?_) | (refine And.intro (by simp only [List.length_append, List.length_set, List.length_replicate, List.length_cons, List.length_nil, List.nil_append]; omega) ?_) | (refine And.intro (by kernel_rfl) ?_) | (refine stpQ ?_))
  (refine z00 (by rfl) ?_ ?_ (by rfl)) <;> (repeat' (first | (exact eqA) | (refine And.intro ?_ ?_) | ((fail_if_success (with_reducible (show _ = _))); (show _ = _)))) <;> rfl
theorem z6E (a K : Nat) (V : List (List T)) (ts : List Bs) (s : Sv) {n : Nat} (g : SvOk n s) (hn : n ≤ 1000) (hK : K ≤ 2) (ha : a < 2 ^ K) (k f t : Int) (e y : Nat) (r : Bs) (ho : z0a k f t (e : Int) (y : Int) r = true) (ht : t = ((a + 1 : Nat) : Int)) (hk : k = 1) (he : (e : Int) = (s.ep : Int) + 1) (hy2 : (s.rt : Int) < (y : Int)) (hy3 : y ≤ 1000) (hr : Rec 89 ts) (g2 : SvOk n { s with re := e, rt := y, rk := s.al.length }) : CT Tryz.prog 101 (svH (a : Int) (K : Int) true (dkOf shardN ts) V s .no) [.ptr 1 0 0, .agg (ltL k f t (e : Int) (y : Int) r)] (.ref 5) (svH (a : Int) (K : Int) true (dkOf shardN (ts ++ [2 :: (z03 e ++ z03 y ++ z03 s.al.length)])) V { s with re := e, rt := y, rk := s.al.length } .no ++ [.row 6 [z3x a K { s with re := e, rt := y, rk := s.al.length }]]) := by
 have hp : (2 : Nat) ^ K ≤ 4 := by rcases (show K = 0 ∨ K = 1 ∨ K = 2 by omega) with h | h | h <;> subst h <;> decide
 have g4 := g.al
 have hcl := z0R s.al
 have cO := z0U k f t (e : Int) (y : Int) r
 have ea : IntKind.i64.wrap ((a : Int) + 1) = ((a + 1 : Nat) : Int) := by rw [wrap_i64 (by omega) (by omega)]; omega
 rw [ho] at cO
 subst ht
 subst hk
 have ht0 : ((a + 1 : Nat) : Int) = ((a + 1 : Nat) : Int) := rfl
 have cP := z9b a K V ts s g hn hK ha 1 f ((a + 1 : Nat) : Int) e y r he hy2 hy3 hr g2
 generalize z3x a K { s with re := e, rt := y, rk := s.al.length } = vt at *
 generalize dkOf shardN (ts ++ [2 :: (z03 e ++ z03 y ++ z03 s.al.length)]) = d2 at *
 simp only [z0y, ltL, List.cons_append, List.nil_append] at cO ⊢
 (try simp only [z0y, ltL, List.cons_append, List.nil_append] at cP)
 (try simp only [z0y] at c2)
 by_cases me : (s.re : Int) = (e : Int)
 ·by_cases my : (s.rt : Int) = (y : Int)
  ·skip
   refine z01 z0i 5 rfl Tryz.func101 rfl rfl rfl ?_
   conv => arg 6; whnf
   repeat ((try conv => whnf); first | (with_reducible first | refine z0f (fun Qs hN hE hR => ?_) | refine z0d ?_ | refine z04 (fun Qb kN kE kX kR => ?_) | refine z06 ?_ | refine z07 ?_ | refine z0e ?_ | refine z08 ?_ | refine z09 ?_ | (show W _ _ _ (.cond _ _ _) _ _; refine z05 rfl ?_) | (refine hN _ ?_; try clear hN hE hR Qs; (try (conv => arg 6; dsimp only [ovl, List.set, List.map, ren0]))) | ((first | refine hE _ _ ?_ | refine hR _ ?_); try clear hN hE hR Qs) | ((first | refine kN _ ?_ | refine kE _ ?_ | refine kX _ _ rfl ?_ | refine kR _ ?_); try clear kN kE kX kR Qb)) | (refine ccA ([]) (cO) ?_) | (refine Exists.intro _ (And.intro ea.symm ?_)) | (refine z1g ht0 ?_) | (refine ccB ([_, _, _, _]) (cP) ?_) | (refine z0h me ?_) | (refine z0c me ?_) | (refine z0h my ?_) | (refine z0c my ?_) | (refine And.intro (by simp only [List.length_append, List.length_set, List.length_replicate, List.length_cons, List.length_nil, List.nil_append]; omega) ?_) | (refine And.intro (by kernel_rfl) ?_) | (refine stpQ ?_))
   (refine z00 (by rfl) ?_ ?_ (by rfl)) <;> (repeat' (first | (exact eqA) | (refine And.intro ?_ ?_) | ((fail_if_success (with_reducible (show _ = _))); (show _ = _)))) <;> rfl
  ·skip
   refine z01 z0i 5 rfl Tryz.func101 rfl rfl rfl ?_
   conv => arg 6; whnf
   repeat ((try conv => whnf); first | (with_reducible first | refine z0f (fun Qs hN hE hR => ?_) | refine z0d ?_ | refine z04 (fun Qb kN kE kX kR => ?_) | refine z06 ?_ | refine z07 ?_ | refine z0e ?_ | refine z08 ?_ | refine z09 ?_ | (show W _ _ _ (.cond _ _ _) _ _; refine z05 rfl ?_) | (refine hN _ ?_; try clear hN hE hR Qs; (try (conv => arg 6; dsimp only [ovl, List.set, List.map, ren0]))) | ((first | refine hE _ _ ?_ | refine hR _ ?_); try clear hN hE hR Qs) | ((first | refine kN _ ?_ | refine kE _ ?_ | refine kX _ _ rfl ?_ | refine kR _ ?_); try clear kN kE kX kR Qb)) | (refine ccA ([]) (cO) ?_) | (refine Exists.intro _ (And.intro ea.symm ?_)) | (refine z1g ht0 ?_) | (refine ccB ([_, _, _, _]) (cP) ?_) | (refine z0h me ?_) | (refine z0c me ?_) | (refine z0h my ?_) | (refine z0c my ?_) | (refine And.intro (by simp only [List.length_append, List.length_set, List.length_replicate, List.length_cons, List.length_nil, List.nil_append]; omega) ?_) | (refine And.intro (by kernel_rfl) ?_) | (refine stpQ ?_))
   (refine z00 (by rfl) ?_ ?_ (by rfl)) <;> (repeat' (first | (exact eqA) | (refine And.intro ?_ ?_) | ((fail_if_success (with_reducible (show _ = _))); (show _ = _)))) <;> rfl
 ·skip
  refine z01 z0i 5 rfl Tryz.func101 rfl rfl rfl ?_
  conv => arg 6; whnf
  repeat ((try conv => whnf); first | (with_reducible first | refine z0f (fun Qs hN hE hR => ?_) | refine z0d ?_ | refine z04 (fun Qb kN kE kX kR => ?_) | refine z06 ?_ | refine z07 ?_ | refine z0e ?_ | refine z08 ?_ | refine z09 ?_ | (show W _ _ _ (.cond _ _ _) _ _; refine z05 rfl ?_) | (refine hN _ ?_; try clear hN hE hR Qs; (try (conv => arg 6; dsimp only [ovl, List.set, List.map, ren0]))) | ((first | refine hE _ _ ?_ | refine hR _ ?_); try clear hN hE hR Qs) | ((first | refine kN _ ?_ | refine kE _ ?_ | refine kX _ _ rfl ?_ | refine kR _ ?_); try clear kN kE kX kR Qb)) | (refine ccA ([]) (cO) ?_) | (refine Exists.intro _ (And.intro ea.symm ?_)) | (refine z1g ht0 ?_) | (refine ccB ([_, _, _, _]) (cP) ?_) | (refine z0h me ?_) | (refine z0c me ?_) | (refine z0h my ?_) | (refine z0c my ?_) | (refine And.intro (by simp only [List.length_append, List.length_set, List.length_replicate, List.length_cons, List.length_nil, List.nil_append]; omega) ?_) | (refine And.intro (by kernel_rfl) ?_) | (refine stpQ ?_))
  (refine z00 (by rfl) ?_ ?_ (by rfl)) <;> (repeat' (first | (exact eqA) | (refine And.intro ?_ ?_) | ((fail_if_success (with_reducible (show _ = _))); (show _ = _)))) <;> rfl
theorem z9c (a K : Nat) (V : List (List T)) (ts : List Bs) (s : Sv) {n : Nat} (g : SvOk n s) (hn : n ≤ 1000) (hK : K ≤ 2) (ha : a < 2 ^ K) (k f t : Int) (e y : Nat) (r : Bs) (ho : z0a k f t (e : Int) (y : Int) r = true) (ht : t = ((a + 1 : Nat) : Int)) (hk : k = 3) (me : ¬ (s.re : Int) = (e : Int)) : CT Tryz.prog 101 (svH (a : Int) (K : Int) true (dkOf shardN ts) V s .no) [.ptr 1 0 0, .agg (ltL k f t (e : Int) (y : Int) r)] (.ref 5) (svH (a : Int) (K : Int) true (dkOf shardN ts) V s .no ++ [.row 6 []]) := by
 have hp : (2 : Nat) ^ K ≤ 4 := by rcases (show K = 0 ∨ K = 1 ∨ K = 2 by omega) with h | h | h <;> subst h <;> decide
 have g4 := g.al
 have hcl := z0R s.al
 have cO := z0U k f t (e : Int) (y : Int) r
 have ea : IntKind.i64.wrap ((a : Int) + 1) = ((a + 1 : Nat) : Int) := by rw [wrap_i64 (by omega) (by omega)]; omega
 rw [ho] at cO
 subst ht
 subst hk
 have ht0 : ((a + 1 : Nat) : Int) = ((a + 1 : Nat) : Int) := rfl
 have n1 : ¬ (3 : Int) = 1 := by decide
 have q3 : (3 : Int) = 3 := by decide
 have n4 : ¬ (3 : Int) = 4 := by decide
 simp only [z0y, ltL, List.cons_append, List.nil_append] at cO ⊢
 (try simp only [z0y, ltL, List.cons_append, List.nil_append] at cP)
 (try simp only [z0y] at c2)
 refine z01 z0i 5 rfl Tryz.func101 rfl rfl rfl ?_
 conv => arg 6; whnf
 repeat ((try conv => whnf); first | (with_reducible first | refine z0f (fun Qs hN hE hR => ?_) | refine z0d ?_ | refine z04 (fun Qb kN kE kX kR => ?_) | refine z06 ?_ | refine z07 ?_ | refine z0e ?_ | refine z08 ?_ | refine z09 ?_ | (show W _ _ _ (.cond _ _ _) _ _; refine z05 rfl ?_) | (refine hN _ ?_; try clear hN hE hR Qs; (try (conv => arg 6; dsimp only [ovl, List.set, List.map, ren0]))) | ((first | refine hE _ _ ?_ | refine hR _ ?_); try clear hN hE hR Qs) | ((first | refine kN _ ?_ | refine kE _ ?_ | refine kX _ _ rfl ?_ | refine kR _ ?_); try clear kN kE kX kR Qb)) | (refine ccA ([]) (cO) ?_) | (refine Exists.intro _ (And.intro ea.symm ?_)) | (refine z1g ht0 ?_) | (refine z0c n1 ?_) | (refine z0h q3 ?_) | (refine z0c n4 ?_) | (refine z0c me ?_) | (refine And.intro (by simp only [List.length_append, List.length_set, List.length_replicate, List.length_cons, List.length_nil, List.nil_append]; omega) ?_) | (refine And.intro (by kernel_rfl) ?_) | (refine stpQ ?_))
 (refine z00 (by rfl) ?_ ?_ (by rfl)) <;> (repeat' (first | (exact eqA) | (refine And.intro ?_ ?_) | ((fail_if_success (with_reducible (show _ = _))); (show _ = _)))) <;> rfl
theorem z9d (a K : Nat) (V : List (List T)) (ts : List Bs) (s : Sv) {n : Nat} (g : SvOk n s) (hn : n ≤ 1000) (hK : K ≤ 2) (ha : a < 2 ^ K) (k f t : Int) (e y : Nat) (r : Bs) (ho : z0a k f t (e : Int) (y : Int) r = true) (ht : t = ((a + 1 : Nat) : Int)) (hk : k = 3) (me : (s.re : Int) = (e : Int)) (my : ¬ (s.rt : Int) = (y : Int)) : CT Tryz.prog 101 (svH (a : Int) (K : Int) true (dkOf shardN ts) V s .no) [.ptr 1 0 0, .agg (ltL k f t (e : Int) (y : Int) r)] (.ref 5) (svH (a : Int) (K : Int) true (dkOf shardN ts) V s .no ++ [.row 6 []]) := by
 have hp : (2 : Nat) ^ K ≤ 4 := by rcases (show K = 0 ∨ K = 1 ∨ K = 2 by omega) with h | h | h <;> subst h <;> decide
 have g4 := g.al
 have hcl := z0R s.al
 have cO := z0U k f t (e : Int) (y : Int) r
 have ea : IntKind.i64.wrap ((a : Int) + 1) = ((a + 1 : Nat) : Int) := by rw [wrap_i64 (by omega) (by omega)]; omega
 rw [ho] at cO
 subst ht
 subst hk
 have ht0 : ((a + 1 : Nat) : Int) = ((a + 1 : Nat) : Int) := rfl
 have n1 : ¬ (3 : Int) = 1 := by decide
 have q3 : (3 : Int) = 3 := by decide
 have n4 : ¬ (3 : Int) = 4 := by decide
 simp only [z0y, ltL, List.cons_append, List.nil_append] at cO ⊢
 (try simp only [z0y, ltL, List.cons_append, List.nil_append] at cP)
 (try simp only [z0y] at c2)
 refine z01 z0i 5 rfl Tryz.func101 rfl rfl rfl ?_
 conv => arg 6; whnf
 repeat ((try conv => whnf); first | (with_reducible first | refine z0f (fun Qs hN hE hR => ?_) | refine z0d ?_ | refine z04 (fun Qb kN kE kX kR => ?_) | refine z06 ?_ | refine z07 ?_ | refine z0e ?_ | refine z08 ?_ | refine z09 ?_ | (show W _ _ _ (.cond _ _ _) _ _; refine z05 rfl ?_) | (refine hN _ ?_; try clear hN hE hR Qs; (try (conv => arg 6; dsimp only [ovl, List.set, List.map, ren0]))) | ((first | refine hE _ _ ?_ | refine hR _ ?_); try clear hN hE hR Qs) | ((first | refine kN _ ?_ | refine kE _ ?_ | refine kX _ _ rfl ?_ | refine kR _ ?_); try clear kN kE kX kR Qb)) | (refine ccA ([]) (cO) ?_) | (refine Exists.intro _ (And.intro ea.symm ?_)) | (refine z1g ht0 ?_) | (refine z0c n1 ?_) | (refine z0h q3 ?_) | (refine z0c n4 ?_) | (refine z0h me ?_) | (refine z0c my ?_) | (refine And.intro (by simp only [List.length_append, List.length_set, List.length_replicate, List.length_cons, List.length_nil, List.nil_append]; omega) ?_) | (refine And.intro (by kernel_rfl) ?_) | (refine stpQ ?_))
 (refine z00 (by rfl) ?_ ?_ (by rfl)) <;> (repeat' (first | (exact eqA) | (refine And.intro ?_ ?_) | ((fail_if_success (with_reducible (show _ = _))); (show _ = _)))) <;> rfl
theorem zaq (a K : Nat) (V : List (List T)) (ts : List Bs) (s : Sv) {n : Nat} (g : SvOk n s) (hn : n ≤ 1000) (hK : K ≤ 2) (ha : a < 2 ^ K) (k f t : Int) (e y : Nat) (r : Bs) (ho : z0a k f t (e : Int) (y : Int) r = true) (ht : t = ((a + 1 : Nat) : Int)) (hk : k = 3) (me : (s.re : Int) = (e : Int)) (my : (s.rt : Int) = (y : Int)) (hb : e ≤ 1000 ∧ y ≤ 1000) (hr : Rec 89 ts) : CT Tryz.prog 101 (svH (a : Int) (K : Int) true (dkOf shardN ts) V s .no) [.ptr 1 0 0, .agg (ltL k f t (e : Int) (y : Int) r)] (.ref 5) (svH (a : Int) (K : Int) true (dkOf shardN (ts ++ [4 :: (z03 e ++ z03 y)])) V { s with re := 0, rt := 0, rk := 0 } .no ++ [.row 6 []]) := by
 have hp : (2 : Nat) ^ K ≤ 4 := by rcases (show K = 0 ∨ K = 1 ∨ K = 2 by omega) with h | h | h <;> subst h <;> decide
 have g4 := g.al
 have hcl := z0R s.al
 have cO := z0U k f t (e : Int) (y : Int) r
 have ea : IntKind.i64.wrap ((a : Int) + 1) = ((a + 1 : Nat) : Int) := by rw [wrap_i64 (by omega) (by omega)]; omega
 rw [ho] at cO
 subst ht
 subst hk
 have ht0 : ((a + 1 : Nat) : Int) = ((a + 1 : Nat) : Int) := rfl
 have n1 : ¬ (3 : Int) = 1 := by decide
 have q3 : (3 : Int) = 3 := by decide
 have n4 : ¬ (3 : Int) = 4 := by decide
 have rn := z3o (k := 4) (x := e) (y := y) (z := 0) ⟨by omega, by omega, by omega⟩
 have c2 := z3r (a : Int) (K : Int) true V s (4 :: (z03 e ++ z03 y)) ts rn.2.1 hr
 have v1 := z4n e (by omega)
 have v2 := z4n y (by omega)
 have eT : (4 :: (z03 e ++ z03 y) : Bs) = [4] ++ z03 e ++ z03 y := by simp
 have rl := rn.2.1.2
 simp only [List.length_cons, List.length_append] at rl
 rw [eT] at c2 ⊢
 clear rn eT
 generalize dkOf shardN (ts ++ [[4] ++ z03 e ++ z03 y]) = d2 at *
 generalize z03 e = ve at *
 generalize z03 y = vy at *
 clear hr
 simp only [z0y, ltL, List.cons_append, List.nil_append] at cO ⊢
 (try simp only [z0y, ltL, List.cons_append, List.nil_append] at cP)
 (try simp only [z0y] at c2)
 refine z01 z0i 5 rfl Tryz.func101 rfl rfl rfl ?_
 conv => arg 6; whnf
 repeat ((try conv => whnf); first | (with_reducible first | refine z0f (fun Qs hN hE hR => ?_) | refine z0d ?_ | refine z04 (fun Qb kN kE kX kR => ?_) | refine z06 ?_ | refine z07 ?_ | refine z0e ?_ | refine z08 ?_ | refine z09 ?_ | (show W _ _ _ (.cond _ _ _) _ _; refine z05 rfl ?_) | (refine hN _ ?_; try clear hN hE hR Qs; (try (conv => arg 6; dsimp only [ovl, List.set, List.map, ren0]))) | ((first | refine hE _ _ ?_ | refine hR _ ?_); try clear hN hE hR Qs) | ((first | refine kN _ ?_ | refine kE _ ?_ | refine kX _ _ rfl ?_ | refine kR _ ?_); try clear kN kE kX kR Qb)) | (refine ccA ([]) (cO) ?_) | (refine Exists.intro _ (And.intro ea.symm ?_)) | (refine z1g ht0 ?_) | (refine z0c n1 ?_) | (refine z0h q3 ?_) | (refine z0c n4 ?_) | (refine z0h me ?_) | (refine z0h my ?_) | (refine ccA ([]) (v1) ?_) | (refine ccA ([]) (v2) ?_) | (refine ccB ([_, _, _, _]) (c2) ?_) | (refine And.intro (by simp only [List.length_append, List.length_set, List.length_replicate, List.length_cons, List.length_nil, List.nil_append]; omega) ?_) | (refine And.intro (by kernel_rfl) ?_) | (refine stpQ ?_))
 (refine z00 (by rfl) ?_ ?_ (by rfl)) <;> (repeat' (first | (exact eqA) | (refine And.intro ?_ ?_) | ((fail_if_success (with_reducible (show _ = _))); (show _ = _)))) <;> rfl
theorem z9e (a K : Nat) (V : List (List T)) (ts : List Bs) (s : Sv) {n : Nat} (g : SvOk n s) (hn : n ≤ 1000) (hK : K ≤ 2) (ha : a < 2 ^ K) (k f t : Int) (e y : Nat) (r : Bs) (ho : z0a k f t (e : Int) (y : Int) r = true) (ht : t = ((a + 1 : Nat) : Int)) (hk : k = 4) (hl : (e : Int) ≤ (s.ep : Int)) : CT Tryz.prog 101 (svH (a : Int) (K : Int) true (dkOf shardN ts) V s .no) [.ptr 1 0 0, .agg (ltL k f t (e : Int) (y : Int) r)] (.ref 5) (svH (a : Int) (K : Int) true (dkOf shardN ts) V s .no ++ [.row 6 [zcv a e y]]) := by
 have hp : (2 : Nat) ^ K ≤ 4 := by rcases (show K = 0 ∨ K = 1 ∨ K = 2 by omega) with h | h | h <;> subst h <;> decide
 have g4 := g.al
 have hcl := z0R s.al
 have cO := z0U k f t (e : Int) (y : Int) r
 have ea : IntKind.i64.wrap ((a : Int) + 1) = ((a + 1 : Nat) : Int) := by rw [wrap_i64 (by omega) (by omega)]; omega
 rw [ho] at cO
 subst ht
 subst hk
 have ht0 : ((a + 1 : Nat) : Int) = ((a + 1 : Nat) : Int) := rfl
 have n1 : ¬ (4 : Int) = 1 := by decide
 have n3 : ¬ (4 : Int) = 3 := by decide
 have q4 : (4 : Int) = 4 := by decide
 unfold zcv
 simp only [z0y, ltL, List.cons_append, List.nil_append] at cO ⊢
 (try simp only [z0y, ltL, List.cons_append, List.nil_append] at cP)
 (try simp only [z0y] at c2)
 by_cases me : (s.re : Int) = (e : Int)
 ·by_cases my : (s.rt : Int) = (y : Int)
  ·skip
   refine z01 z0i 5 rfl Tryz.func101 rfl rfl rfl ?_
   conv => arg 6; whnf
   repeat ((try conv => whnf); first | (with_reducible first | refine z0f (fun Qs hN hE hR => ?_) | refine z0d ?_ | refine z04 (fun Qb kN kE kX kR => ?_) | refine z06 ?_ | refine z07 ?_ | refine z0e ?_ | refine z08 ?_ | refine z09 ?_ | (show W _ _ _ (.cond _ _ _) _ _; refine z05 rfl ?_) | (refine hN _ ?_; try clear hN hE hR Qs; (try (conv => arg 6; dsimp only [ovl, List.set, List.map, ren0]))) | ((first | refine hE _ _ ?_ | refine hR _ ?_); try clear hN hE hR Qs) | ((first | refine kN _ ?_ | refine kE _ ?_ | refine kX _ _ rfl ?_ | refine kR _ ?_); try clear kN kE kX kR Qb)) | (refine ccA ([]) (cO) ?_) | (refine Exists.intro _ (And.intro ea.symm ?_)) | (refine z1g ht0 ?_) | (refine z0c n1 ?_) | (refine z0c n3 ?_) | (refine z0h q4 ?_) | (refine z0h hl ?_) | (refine z0h me ?_) | (refine z0c me ?_) | (refine z0h my ?_) | (refine z0c my ?_) | (refine And.intro (by simp only [List.length_append, List.length_set, List.length_replicate, List.length_cons, List.length_nil, List.nil_append]; omega) ?_) | (refine And.intro (by kernel_rfl) ?_) | (refine stpQ ?_))
   (refine z00 (by rfl) ?_ ?_ (by rfl)) <;> (repeat' (first | (exact eqA) | (refine And.intro ?_ ?_) | ((fail_if_success (with_reducible (show _ = _))); (show _ = _)))) <;> rfl
  ·skip
   refine z01 z0i 5 rfl Tryz.func101 rfl rfl rfl ?_
   conv => arg 6; whnf
   repeat ((try conv => whnf); first | (with_reducible first | refine z0f (fun Qs hN hE hR => ?_) | refine z0d ?_ | refine z04 (fun Qb kN kE kX kR => ?_) | refine z06 ?_ | refine z07 ?_ | refine z0e ?_ | refine z08 ?_ | refine z09 ?_ | (show W _ _ _ (.cond _ _ _) _ _; refine z05 rfl ?_) | (refine hN _ ?_; try clear hN hE hR Qs; (try (conv => arg 6; dsimp only [ovl, List.set, List.map, ren0]))) | ((first | refine hE _ _ ?_ | refine hR _ ?_); try clear hN hE hR Qs) | ((first | refine kN _ ?_ | refine kE _ ?_ | refine kX _ _ rfl ?_ | refine kR _ ?_); try clear kN kE kX kR Qb)) | (refine ccA ([]) (cO) ?_) | (refine Exists.intro _ (And.intro ea.symm ?_)) | (refine z1g ht0 ?_) | (refine z0c n1 ?_) | (refine z0c n3 ?_) | (refine z0h q4 ?_) | (refine z0h hl ?_) | (refine z0h me ?_) | (refine z0c me ?_) | (refine z0h my ?_) | (refine z0c my ?_) | (refine And.intro (by simp only [List.length_append, List.length_set, List.length_replicate, List.length_cons, List.length_nil, List.nil_append]; omega) ?_) | (refine And.intro (by kernel_rfl) ?_) | (refine stpQ ?_))
   (refine z00 (by rfl) ?_ ?_ (by rfl)) <;> (repeat' (first | (exact eqA) | (refine And.intro ?_ ?_) | ((fail_if_success (with_reducible (show _ = _))); (show _ = _)))) <;> rfl
 ·skip
  refine z01 z0i 5 rfl Tryz.func101 rfl rfl rfl ?_
  conv => arg 6; whnf
  repeat ((try conv => whnf); first | (with_reducible first | refine z0f (fun Qs hN hE hR => ?_) | refine z0d ?_ | refine z04 (fun Qb kN kE kX kR => ?_) | refine z06 ?_ | refine z07 ?_ | refine z0e ?_ | refine z08 ?_ | refine z09 ?_ | (show W _ _ _ (.cond _ _ _) _ _; refine z05 rfl ?_) | (refine hN _ ?_; try clear hN hE hR Qs; (try (conv => arg 6; dsimp only [ovl, List.set, List.map, ren0]))) | ((first | refine hE _ _ ?_ | refine hR _ ?_); try clear hN hE hR Qs) | ((first | refine kN _ ?_ | refine kE _ ?_ | refine kX _ _ rfl ?_ | refine kR _ ?_); try clear kN kE kX kR Qb)) | (refine ccA ([]) (cO) ?_) | (refine Exists.intro _ (And.intro ea.symm ?_)) | (refine z1g ht0 ?_) | (refine z0c n1 ?_) | (refine z0c n3 ?_) | (refine z0h q4 ?_) | (refine z0h hl ?_) | (refine z0h me ?_) | (refine z0c me ?_) | (refine z0h my ?_) | (refine z0c my ?_) | (refine And.intro (by simp only [List.length_append, List.length_set, List.length_replicate, List.length_cons, List.length_nil, List.nil_append]; omega) ?_) | (refine And.intro (by kernel_rfl) ?_) | (refine stpQ ?_))
  (refine z00 (by rfl) ?_ ?_ (by rfl)) <;> (repeat' (first | (exact eqA) | (refine And.intro ?_ ?_) | ((fail_if_success (with_reducible (show _ = _))); (show _ = _)))) <;> rfl
theorem z9f (a K : Nat) (V : List (List T)) (ts : List Bs) (s : Sv) {n : Nat} (g : SvOk n s) (hn : n ≤ 1000) (hK : K ≤ 2) (ha : a < 2 ^ K) (k f t : Int) (e y : Nat) (r : Bs) (ho : z0a k f t (e : Int) (y : Int) r = true) (ht : t = ((a + 1 : Nat) : Int)) (hk : k = 4) (hl : ¬ (e : Int) ≤ (s.ep : Int)) (me : ¬ (s.re : Int) = (e : Int)) : CT Tryz.prog 101 (svH (a : Int) (K : Int) true (dkOf shardN ts) V s .no) [.ptr 1 0 0, .agg (ltL k f t (e : Int) (y : Int) r)] (.ref 5) (svH (a : Int) (K : Int) true (dkOf shardN ts) V s .no ++ [.row 6 []]) := by
 have hp : (2 : Nat) ^ K ≤ 4 := by rcases (show K = 0 ∨ K = 1 ∨ K = 2 by omega) with h | h | h <;> subst h <;> decide
 have g4 := g.al
 have hcl := z0R s.al
 have cO := z0U k f t (e : Int) (y : Int) r
 have ea : IntKind.i64.wrap ((a : Int) + 1) = ((a + 1 : Nat) : Int) := by rw [wrap_i64 (by omega) (by omega)]; omega
 rw [ho] at cO
 subst ht
 subst hk
 have ht0 : ((a + 1 : Nat) : Int) = ((a + 1 : Nat) : Int) := rfl
 have n1 : ¬ (4 : Int) = 1 := by decide
 have n3 : ¬ (4 : Int) = 3 := by decide
 have q4 : (4 : Int) = 4 := by decide
 simp only [z0y, ltL, List.cons_append, List.nil_append] at cO ⊢
 (try simp only [z0y, ltL, List.cons_append, List.nil_append] at cP)
 (try simp only [z0y] at c2)
 refine z01 z0i 5 rfl Tryz.func101 rfl rfl rfl ?_
 conv => arg 6; whnf
 repeat ((try conv => whnf); first | (with_reducible first | refine z0f (fun Qs hN hE hR => ?_) | refine z0d ?_ | refine z04 (fun Qb kN kE kX kR => ?_) | refine z06 ?_ | refine z07 ?_ | refine z0e ?_ | refine z08 ?_ | refine z09 ?_ | (show W _ _ _ (.cond _ _ _) _ _; refine z05 rfl ?_) | (refine hN _ ?_; try clear hN hE hR Qs; (try (conv => arg 6; dsimp only [ovl, List.set, List.map, ren0]))) | ((first | refine hE _ _ ?_ | refine hR _ ?_); try clear hN hE hR Qs) | ((first | refine kN _ ?_ | refine kE _ ?_ | refine kX _ _ rfl ?_ | refine kR _ ?_); try clear kN kE kX kR Qb)) | (refine ccA ([]) (cO) ?_) | (refine Exists.intro _ (And.intro ea.symm ?_)) | (refine z1g ht0 ?_) | (refine z0c n1 ?_) | (refine z0c n3 ?_) | (refine z0h q4 ?_) | (refine z0c hl ?_) | (refine z0c me ?_) | (refine And.intro (by simp only [List.length_append, List.length_set, List.length_replicate, List.length_cons, List.length_nil, List.nil_append]; omega) ?_) | (refine And.intro (by kernel_rfl) ?_) | (refine stpQ ?_))
 (refine z00 (by rfl) ?_ ?_ (by rfl)) <;> (repeat' (first | (exact eqA) | (refine And.intro ?_ ?_) | ((fail_if_success (with_reducible (show _ = _))); (show _ = _)))) <;> rfl
theorem z9g (a K : Nat) (V : List (List T)) (ts : List Bs) (s : Sv) {n : Nat} (g : SvOk n s) (hn : n ≤ 1000) (hK : K ≤ 2) (ha : a < 2 ^ K) (k f t : Int) (e y : Nat) (r : Bs) (ho : z0a k f t (e : Int) (y : Int) r = true) (ht : t = ((a + 1 : Nat) : Int)) (hk : k = 4) (hl : ¬ (e : Int) ≤ (s.ep : Int)) (me : (s.re : Int) = (e : Int)) (my : ¬ (s.rt : Int) = (y : Int)) : CT Tryz.prog 101 (svH (a : Int) (K : Int) true (dkOf shardN ts) V s .no) [.ptr 1 0 0, .agg (ltL k f t (e : Int) (y : Int) r)] (.ref 5) (svH (a : Int) (K : Int) true (dkOf shardN ts) V s .no ++ [.row 6 []]) := by
 have hp : (2 : Nat) ^ K ≤ 4 := by rcases (show K = 0 ∨ K = 1 ∨ K = 2 by omega) with h | h | h <;> subst h <;> decide
 have g4 := g.al
 have hcl := z0R s.al
 have cO := z0U k f t (e : Int) (y : Int) r
 have ea : IntKind.i64.wrap ((a : Int) + 1) = ((a + 1 : Nat) : Int) := by rw [wrap_i64 (by omega) (by omega)]; omega
 rw [ho] at cO
 subst ht
 subst hk
 have ht0 : ((a + 1 : Nat) : Int) = ((a + 1 : Nat) : Int) := rfl
 have n1 : ¬ (4 : Int) = 1 := by decide
 have n3 : ¬ (4 : Int) = 3 := by decide
 have q4 : (4 : Int) = 4 := by decide
 simp only [z0y, ltL, List.cons_append, List.nil_append] at cO ⊢
 (try simp only [z0y, ltL, List.cons_append, List.nil_append] at cP)
 (try simp only [z0y] at c2)
 refine z01 z0i 5 rfl Tryz.func101 rfl rfl rfl ?_
 conv => arg 6; whnf
 repeat ((try conv => whnf); first | (with_reducible first | refine z0f (fun Qs hN hE hR => ?_) | refine z0d ?_ | refine z04 (fun Qb kN kE kX kR => ?_) | refine z06 ?_ | refine z07 ?_ | refine z0e ?_ | refine z08 ?_ | refine z09 ?_ | (show W _ _ _ (.cond _ _ _) _ _; refine z05 rfl ?_) | (refine hN _ ?_; try clear hN hE hR Qs; (try (conv => arg 6; dsimp only [ovl, List.set, List.map, ren0]))) | ((first | refine hE _ _ ?_ | refine hR _ ?_); try clear hN hE hR Qs) | ((first | refine kN _ ?_ | refine kE _ ?_ | refine kX _ _ rfl ?_ | refine kR _ ?_); try clear kN kE kX kR Qb)) | (refine ccA ([]) (cO) ?_) | (refine Exists.intro _ (And.intro ea.symm ?_)) | (refine z1g ht0 ?_) | (refine z0c n1 ?_) | (refine z0c n3 ?_) | (refine z0h q4 ?_) | (refine z0c hl ?_) | (refine z0h me ?_) | (refine z0c my ?_) | (refine And.intro (by simp only [List.length_append, List.length_set, List.length_replicate, List.length_cons, List.length_nil, List.nil_append]; omega) ?_) | (refine And.intro (by kernel_rfl) ?_) | (refine stpQ ?_))
 (refine z00 (by rfl) ?_ ?_ (by rfl)) <;> (repeat' (first | (exact eqA) | (refine And.intro ?_ ?_) | ((fail_if_success (with_reducible (show _ = _))); (show _ = _)))) <;> rfl
theorem zar (a K : Nat) (V : List (List T)) (ts : List Bs) (s : Sv) {n : Nat} (g : SvOk n s) (hn : n ≤ 1000) (hK : K ≤ 2) (ha : a < 2 ^ K) (k f t : Int) (e y : Nat) (r : Bs) (ho : z0a k f t (e : Int) (y : Int) r = true) (ht : t = ((a + 1 : Nat) : Int)) (hk : k = 4) (hl : ¬ (e : Int) ≤ (s.ep : Int)) (me : (s.re : Int) = (e : Int)) (my : (s.rt : Int) = (y : Int)) (hb : e ≤ 1000 ∧ y ≤ 1000) (hr : Rec 89 ts) (hV : V.length ≤ 10) : CT Tryz.prog 101 (svH (a : Int) (K : Int) true (dkOf shardN ts) V s .no) [.ptr 1 0 0, .agg (ltL k f t (e : Int) (y : Int) r)] (.ref 7) (svH (a : Int) (K : Int) true (dkOf shardN (ts ++ [3 :: z03 e])) V s .com ++ [.row 6 [zcv a e y]]) := by
 have hp : (2 : Nat) ^ K ≤ 4 := by rcases (show K = 0 ∨ K = 1 ∨ K = 2 by omega) with h | h | h <;> subst h <;> decide
 have g4 := g.al
 have hcl := z0R s.al
 have cO := z0U k f t (e : Int) (y : Int) r
 have ea : IntKind.i64.wrap ((a : Int) + 1) = ((a + 1 : Nat) : Int) := by rw [wrap_i64 (by omega) (by omega)]; omega
 rw [ho] at cO
 subst ht
 subst hk
 have ht0 : ((a + 1 : Nat) : Int) = ((a + 1 : Nat) : Int) := rfl
 have n1 : ¬ (4 : Int) = 1 := by decide
 have n3 : ¬ (4 : Int) = 3 := by decide
 have q4 : (4 : Int) = 4 := by decide
 unfold zcv
 have rn := z3o (k := 3) (x := e) (y := y) (z := 0) ⟨by omega, by omega, by omega⟩
 have c2 := z3r (a : Int) (K : Int) true V s (3 :: z03 e) ts rn.2.2 hr
 have v1 := z4n e (by omega)
 have v2 := z4n y (by omega)
 have eT : (3 :: z03 e : Bs) = [3] ++ z03 e := by simp
 have rl := rn.2.2.2
 simp only [List.length_cons, List.length_append] at rl
 rw [eT] at c2 ⊢
 clear rn eT
 have c3 := za5 (a : Int) (K : Int) true (dkOf shardN (ts ++ [[3] ++ z03 e])) V hV s g (by omega)
 generalize dkOf shardN (ts ++ [[3] ++ z03 e]) = d2 at *
 unfold svH svB z19 at c3 ⊢
 simp only [List.cons_append, List.nil_append] at c3 ⊢
 generalize z03 e = ve at *
 clear hr
 simp only [z0y, ltL, List.cons_append, List.nil_append] at cO ⊢
 (try simp only [z0y, ltL, List.cons_append, List.nil_append] at cP)
 (try simp only [z0y] at c2)
 refine z01 z0i 5 rfl Tryz.func101 rfl rfl rfl ?_
 conv => arg 6; whnf
 repeat ((try conv => whnf); first | (with_reducible first | refine z0f (fun Qs hN hE hR => ?_) | refine z0d ?_ | refine z04 (fun Qb kN kE kX kR => ?_) | refine z06 ?_ | refine z07 ?_ | refine z0e ?_ | refine z08 ?_ | refine z09 ?_ | (show W _ _ _ (.cond _ _ _) _ _; refine z05 rfl ?_) | (refine hN _ ?_; try clear hN hE hR Qs; (try (conv => arg 6; dsimp only [ovl, List.set, List.map, ren0]))) | ((first | refine hE _ _ ?_ | refine hR _ ?_); try clear hN hE hR Qs) | ((first | refine kN _ ?_ | refine kE _ ?_ | refine kX _ _ rfl ?_ | refine kR _ ?_); try clear kN kE kX kR Qb)) | (refine ccA ([]) (cO) ?_) | (refine Exists.intro _ (And.intro ea.symm ?_)) | (refine z1g ht0 ?_) | (refine z0c n1 ?_) | (refine z0c n3 ?_) | (refine z0h q4 ?_) | (refine z0c hl ?_) | (refine z0h me ?_) | (refine z0h my ?_) | (refine ccA ([]) (v1) ?_) | (refine ccB ([_, _, _, _]) (c2) ?_) | (refine ccB ([_, _, _, _]) (c3) ?_) | (refine And.intro (by simp only [List.length_append, List.length_set, List.length_replicate, List.length_cons, List.length_nil, List.nil_append]; omega) ?_) | (refine And.intro (by kernel_rfl) ?_) | (refine stpQ ?_))
 (refine z00 (by rfl) ?_ ?_ (by rfl)) <;> (repeat' (first | (exact eqA) | (refine And.intro ?_ ?_) | ((fail_if_success (with_reducible (show _ = _))); (show _ = _)))) <;> rfl
end
end Go.Proofs.YtfjbinbpgdiafaaGreatDoor
namespace Go.Proofs.YtfjbinbpgdiafaaGreatDoor
set_option linter.unusedVariables false
set_option linter.unusedSimpArgs false
set_option linter.unusedSectionVars false
open Go.RowKit Pl
theorem SvOk.up {m n : Nat} {s : Sv} (g : SvOk m s) (h : m ≤ n) : SvOk n s := { g with al := Nat.le_trans g.al h }
theorem z2s (s : Sv) (e y : Int) : z0L s e y .no = s := rfl
theorem zcw (s : Sv) (e y : Nat) : z0L s (e : Int) (y : Int) .prep = { s with re := e, rt := y, rk := s.al.length } := rfl
theorem zet (s : Sv) (e y : Int) : z0L s e y .abort = { s with re := 0, rt := 0, rk := 0 } := rfl
theorem z2t (s : Sv) (e y : Int) (ts : List Bs) : ts ++ z2S s e y .no = ts := List.append_nil _
theorem z5j (a K : Nat) (V : List (List T)) {n : Nat} {ts : List Bs} {s : Sv} (h : LogOk (a : Int) (K : Int) n ts s) (hn : n ≤ 80) (hK : K ≤ 2) (ha : a < 2 ^ K) (k f t e y : Int) (r : Bs) {x : Hr} (hx : z3w (a : Int) s (z0a k f t e y r) k t e y = x) (hc : x ≠ .com) :
 CT Tryz.prog 101 (svH (a : Int) (K : Int) true (dkOf shardN ts) V s .no) [.ptr 1 0 0, .agg (ltL k f t e y r)] (.ref 5) (svH (a : Int) (K : Int) true (dkOf shardN (ts ++ z2S s e y x)) V (z0L s e y x) .no ++ [.row 6 (zal a K s e.toNat y.toNat x)]) := by
 have g := h.ok
 have g1 : SvOk (n + 1) s := g.up (Nat.le_succ n)
 have hr : Rec 89 ts := h.rc.up (by omega)
 have hlg := z1u h (by omega) hx
 have eb : ((a : Nat) : Int) + 1 = ((a + 1 : Nat) : Int) := by omega
 unfold z3w at hx
 rw [eb] at hx
 cases ho : z0a k f t e y r with
 | false =>
   rw [ho, if_neg (by intro c; exact Bool.false_ne_true c.1)] at hx; subst hx
   rw [z2t, z2s]
   exact zao a K V ts s g (by omega) hK ha k f t e y r ho
 | true =>
 rw [ho] at hx
 by_cases h1 : t = ((a + 1 : Nat) : Int)
 rotate_left
 ·rw [if_neg (fun c => h1 c.2)] at hx; subst hx
  rw [z2t, z2s]
  exact zap a K V ts s g (by omega) hK ha k f t e y r ho h1
 rw [if_pos ⟨rfl, h1⟩] at hx
 obtain ⟨_, _, _, hb4, hb5, _⟩ := z2i ho
 obtain ⟨e, rfl⟩ : ∃ m : Nat, e = m := ⟨e.toNat, by omega⟩
 obtain ⟨y, rfl⟩ : ∃ m : Nat, y = m := ⟨y.toNat, by omega⟩
 rw [Int.toNat_natCast, Int.toNat_natCast]
 by_cases k1 : k = 1
 ·rw [if_pos k1] at hx
  by_cases h2 : (e : Int) = (s.ep : Int) + 1
  rotate_left
  ·rw [if_neg h2] at hx; subst hx
   rw [z2t, z2s]
   exact z80 a K V ts s g (by omega) hK ha k f t e y r ho h1 k1 h2
  rw [if_pos h2] at hx
  by_cases h3 : (s.rt : Int) < (y : Int)
  ·rw [if_pos h3] at hx; subst hx
   have g2 := hlg.ok
   rw [zcw] at g2 ⊢
   exact z6E a K V ts s g1 (by omega) hK ha k f t e y r ho h1 k1 h2 h3 (by omega) hr g2
  ·rw [if_neg h3] at hx
   by_cases h4 : (y : Int) = (s.rt : Int)
   ·rw [if_pos h4] at hx; subst hx
    rw [show ts ++ z2S s (e : Int) (y : Int) .vote = ts from List.append_nil _, show z0L s (e : Int) (y : Int) .vote = s from rfl]
    exact z6D a K V ts s g (by omega) hK ha k f t e y r ho h1 k1 h2 (by omega) h3
   ·rw [if_neg h4] at hx; subst hx
    rw [z2t, z2s]
    exact z81 a K V ts s g (by omega) hK ha k f t e y r ho h1 k1 h2 (by omega)
 rw [if_neg k1] at hx
 by_cases k3 : k = 3
 ·rw [if_pos k3] at hx
  by_cases me : (s.re : Int) = (e : Int)
  ·by_cases my : (s.rt : Int) = (y : Int)
   ·rw [if_pos ⟨me, my⟩] at hx; subst hx
    rw [zet]
    exact zaq a K V ts s g (by omega) hK ha k f t e y r ho h1 k3 me my ⟨by omega, by omega⟩ hr
   ·rw [if_neg (fun c => my c.2)] at hx; subst hx
    rw [z2t, z2s]
    exact z9d a K V ts s g (by omega) hK ha k f t e y r ho h1 k3 me my
  ·rw [if_neg (fun c => me c.1)] at hx; subst hx
   rw [z2t, z2s]
   exact z9c a K V ts s g (by omega) hK ha k f t e y r ho h1 k3 me
 rw [if_neg k3] at hx
 by_cases k4 : k = 4
 ·rw [if_pos k4] at hx
  by_cases h5 : (e : Int) ≤ (s.ep : Int)
  ·rw [if_pos h5] at hx; subst hx
   rw [show ts ++ z2S s (e : Int) (y : Int) .done = ts from List.append_nil _, show z0L s (e : Int) (y : Int) .done = s from rfl]
   exact z9e a K V ts s g (by omega) hK ha k f t e y r ho h1 k4 h5
  rw [if_neg h5] at hx
  by_cases me : (s.re : Int) = (e : Int)
  ·by_cases my : (s.rt : Int) = (y : Int)
   ·rw [if_pos ⟨me, my⟩] at hx; exact absurd hx.symm hc
   ·rw [if_neg (fun c => my c.2)] at hx; subst hx
    rw [z2t, z2s]
    exact z9g a K V ts s g (by omega) hK ha k f t e y r ho h1 k4 h5 me my
  ·rw [if_neg (fun c => me c.1)] at hx; subst hx
   rw [z2t, z2s]
   exact z9f a K V ts s g (by omega) hK ha k f t e y r ho h1 k4 h5 me
 ·exfalso
  unfold z0a at ho
  rw [if_neg (by omega)] at ho
  simp only [Bool.and_eq_true] at ho
  split at ho
  ·simp only [Bool.and_eq_true, beq_iff_eq] at ho; omega
  ·split at ho
   ·simp only [Bool.and_eq_true, beq_iff_eq] at ho; omega
   ·exact absurd ho.2 (by decide)
theorem zfB (a K : Nat) (V : List (List T)) (hV : V.length ≤ 10) {n : Nat} {ts : List Bs} {s : Sv} (h : LogOk (a : Int) (K : Int) n ts s) (hn : n ≤ 80) (hK : K ≤ 2) (ha : a < 2 ^ K) (k f t e y : Int) (r : Bs) (hx : z3w (a : Int) s (z0a k f t e y r) k t e y = .com) :
 CT Tryz.prog 101 (svH (a : Int) (K : Int) true (dkOf shardN ts) V s .no) [.ptr 1 0 0, .agg (ltL k f t e y r)] (.ref 7) (svH (a : Int) (K : Int) true (dkOf shardN (ts ++ z2S s e y .com)) V s .com ++ [.row 6 (zal a K s e.toNat y.toNat .com)]) := by
 have g := h.ok
 have hr : Rec 89 ts := h.rc.up (by omega)
 have eb : ((a : Nat) : Int) + 1 = ((a + 1 : Nat) : Int) := by omega
 unfold z3w at hx
 rw [eb] at hx
 split at hx
 ·rename_i hc
  obtain ⟨ho, h1⟩ := hc
  obtain ⟨_, _, _, hb4, hb5, _⟩ := z2i ho
  obtain ⟨e, rfl⟩ : ∃ m : Nat, e = m := ⟨e.toNat, by omega⟩
  obtain ⟨y, rfl⟩ : ∃ m : Nat, y = m := ⟨y.toNat, by omega⟩
  rw [Int.toNat_natCast, Int.toNat_natCast]
  split at hx
  ·split at hx
   ·split at hx
    ·cases hx
    ·split at hx <;> cases hx
   ·cases hx
  ·split at hx
   ·split at hx <;> cases hx
   ·split at hx
    ·rename_i k4
     split at hx
     ·cases hx
     ·rename_i h5
      split at hx
      ·rename_i hm
       exact zar a K V ts s g (by omega) hK ha k f t e y r ho h1 k4 h5 hm.1 hm.2 ⟨by omega, by omega⟩ hr hV
      ·cases hx
    ·cases hx
 ·cases hx
end Go.Proofs.YtfjbinbpgdiafaaGreatDoor
