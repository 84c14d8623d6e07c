/- Functions by content: the program copies a shard, writes a record; what is told otherwise. Functions by content: a shard of the program hears a letter (nothing done, votes). Functions by content: a shard of the program hears a letter (given up, committed). -/
import Derived.Test.YthbdlnogojcnmaaGreatDoorDki
import Derived.Test.YthbdlnogojcnmaaGreatDoorSrx
import Derived.Test.YthbdlnogojcnmaaGreatDoorSva
import Derived.Test.YthbdlnogojcnmaaGreatDoorGg
import Derived.Test.YthbdlnogojcnmaaGreatDoorLA
import Derived.Test.YthbdlnogojcnmaaGreatDoorShr
namespace Go.Proofs.YthbdlnogojcnmaaGreatDoor
set_option maxRecDepth 100000
set_option maxHeartbeats 16000000
set_option linter.unusedVariables false
set_option linter.unusedSimpArgs false
set_option linter.unusedSectionVars false
open Go.RowKit Pl
theorem zhO {P : Program} {f : FuncId} {He He' : List Ent} {ts : List T} {r r' : T} (h : CT P f He ts r He') (hr : ∀ X v, RS X r v → RS X r' v) : CT P f He ts r' He' := by
 refine ⟨h.1, fun X hh hH hu vs ha => (h.2 X hh hH hu vs ha).mono ?_⟩
 rintro e w' ⟨v, X', rfl, rfl, h1, h2, h3, h4, h5⟩
 exact ⟨v, X', rfl, rfl, h1, h2, h3, hr X' v h4, h5⟩
theorem zhs (v : List Lf) : vwE [v] = [[.sl 2 (lvE v)]] := rfl
section
attribute [local irreducible] z0p z0r z0y AnsP LeP W CvE z0J
theorem z9h (vs : List (List Lf)) (h : vs.length ≤ 1000) (hv : ∀ v ∈ vs, v.length ≤ 1000) : CT Tryz.prog 103 [] [.sl 1 (vwE vs)] (.ref 1) [.row 1 (vwE vs)] := by
 have hl := z4i vs
 refine z01 z0l 1 rfl Tryz.func103 rfl rfl rfl ?_
 conv => arg 6; whnf
 repeat ((try conv => whnf); first | (with_reducible first | refine z0e (fun Qs hN hE hR => ?_) | refine z0c ?_ | refine z05 (fun Qb kN kE kX kR => ?_) | refine z07 ?_ | refine z08 ?_ | refine z0d ?_ | refine z09 ?_ | refine z0a ?_ | (show W _ _ _ (.cond _ _ _) _ _; refine z06 rfl ?_) | (refine hN _ ?_; try clear hN hE hR Qs; (try (conv => arg 6; dsimp only [ovl, List.set, List.map, ren0]))) | ((first | refine hE _ _ ?_ | refine hR _ ?_); try clear hN hE hR Qs) | ((first | refine kN _ ?_ | refine kE _ ?_ | refine kX _ _ rfl ?_ | refine kR _ ?_); try clear kN kE kX kR Qb)) | (refine Exists.intro vs.length (And.intro hl ?_)) | (refine And.intro (by kernel_rfl) ?_) | (refine stpQ ?_))
 refine z22 Nat (fun i => ⟨[(3, .ref 1), (6, .sl 1 (vwE vs)), (7, .int .i64 ((vs.length : Nat) : Int)), (8, .int .i64 (i : Int))], [(1, some (.row 1 (vwE (vs.take i))))], 2⟩) (fun i => i ≤ vs.length) (fun i => vs.length - i) 0 (Nat.zero_le _) ?_ ?_
 ·(refine z04 (by rfl) ?_ ?_) <;> (repeat' (first | (exact eqA) | (refine And.intro ?_ ?_) | ((fail_if_success (with_reducible (show _ = _))); (show _ = _)))) <;> first | rfl | decide
 ·intro Q1 hQ1 i hi
  by_cases hlt : i < vs.length
  ·have f1 : (i : Int) < ((vs.length : Nat) : Int) := by omega
   have gi := z4U hlt
   have hn := z7X vs i hlt
   have hv2 : (vAt vs i).length ≤ 1000 := by rw [zcw hlt]; exact hv _ (List.getElem_mem hlt)
   have hw : (vwE (vs.take i)).length ≤ 1000 := by rw [z4i, List.length_take]; omega
   have c1 := z1C (vAt vs i) (by omega)
   generalize vAt vs i = v at *
   repeat ((try conv => whnf); first | (with_reducible first | refine z0e (fun Qs hN hE hR => ?_) | refine z0c ?_ | refine z05 (fun Qb kN kE kX kR => ?_) | refine z07 ?_ | refine z08 ?_ | refine z0d ?_ | refine z09 ?_ | refine z0a ?_ | (show W _ _ _ (.cond _ _ _) _ _; refine z06 rfl ?_) | (refine hN _ ?_; try clear hN hE hR Qs; (try (conv => arg 6; dsimp only [ovl, List.set, List.map, ren0]))) | ((first | refine hE _ _ ?_ | refine hR _ ?_); try clear hN hE hR Qs) | ((first | refine kN _ ?_ | refine kE _ ?_ | refine kX _ _ rfl ?_ | refine kR _ ?_); try clear kN kE kX kR Qb)) | (refine z0g f1 ?_) | (refine i_at gi ?_) | (refine ccA ([]) (c1) ?_) | (refine And.intro (by simp only [List.length_append, List.length_set, List.length_replicate, List.length_cons, List.length_nil, List.nil_append]; omega) ?_) | (refine And.intro (by kernel_rfl) ?_) | (refine stpQ ?_))
   refine ⟨i + 1, hlt, by (try dsimp only); omega, ?_⟩
   (try dsimp only)
   rw [hn, zek, zhs]
   (refine z04 (by rfl) ?_ ?_) <;> (repeat' (first | (exact eqA) | (refine And.intro ?_ ?_) | ((fail_if_success (with_reducible (show _ = _))); (show _ = _)))) <;> rfl
  ·obtain rfl : i = vs.length := by omega
   have f1 : ¬ ((vs.length : Nat) : Int) < ((vs.length : Nat) : Int) := by omega
   rw [List.take_length]
   repeat ((try conv => whnf); first | (with_reducible first | refine z0e (fun Qs hN hE hR => ?_) | refine z0c ?_ | refine z05 (fun Qb kN kE kX kR => ?_) | refine z07 ?_ | refine z08 ?_ | refine z0d ?_ | refine z09 ?_ | refine z0a ?_ | (show W _ _ _ (.cond _ _ _) _ _; refine z06 rfl ?_) | (refine hN _ ?_; try clear hN hE hR Qs; (try (conv => arg 6; dsimp only [ovl, List.set, List.map, ren0]))) | ((first | refine hE _ _ ?_ | refine hR _ ?_); try clear hN hE hR Qs) | ((first | refine kN _ ?_ | refine kE _ ?_ | refine kX _ _ rfl ?_ | refine kR _ ?_); try clear kN kE kX kR Qb)) | (refine z0b f1 ?_) | (refine And.intro (by kernel_rfl) ?_) | (refine stpQ ?_))
   refine hQ1 _ _ ?_
   clear hQ1 Q1
   repeat ((try conv => whnf); first | (with_reducible first | refine z0e (fun Qs hN hE hR => ?_) | refine z0c ?_ | refine z05 (fun Qb kN kE kX kR => ?_) | refine z07 ?_ | refine z08 ?_ | refine z0d ?_ | refine z09 ?_ | refine z0a ?_ | (show W _ _ _ (.cond _ _ _) _ _; refine z06 rfl ?_) | (refine hN _ ?_; try clear hN hE hR Qs; (try (conv => arg 6; dsimp only [ovl, List.set, List.map, ren0]))) | ((first | refine hE _ _ ?_ | refine hR _ ?_); try clear hN hE hR Qs) | ((first | refine kN _ ?_ | refine kE _ ?_ | refine kX _ _ rfl ?_ | refine kR _ ?_); try clear kN kE kX kR Qb)) | (refine And.intro (by kernel_rfl) ?_) | (refine stpQ ?_))
   (refine z00 (by rfl) ?_ ?_ (by rfl)) <;> (repeat' (first | (exact eqA) | (refine And.intro ?_ ?_) | ((fail_if_success (with_reducible (show _ = _))); (show _ = _)))) <;> first | rfl | decide
theorem zav (l : List Fl) (h : (l.length : Int) ≤ 100000000) : CT Tryz.prog 98 [] [.agg [.sl 3 (flE l)]] (.agg [.sl 3 (flE l)]) [] := by
 have hl := z1W l
 refine z01 z0l 1 rfl Tryz.func98 rfl rfl rfl ?_
 conv => arg 6; whnf
 repeat ((try conv => whnf); first | (with_reducible first | refine z0e (fun Qs hN hE hR => ?_) | refine z0c ?_ | refine z05 (fun Qb kN kE kX kR => ?_) | refine z07 ?_ | refine z08 ?_ | refine z0d ?_ | refine z09 ?_ | refine z0a ?_ | (show W _ _ _ (.cond _ _ _) _ _; refine z06 rfl ?_) | (refine hN _ ?_; try clear hN hE hR Qs; (try (conv => arg 6; dsimp only [ovl, List.set, List.map, ren0]))) | ((first | refine hE _ _ ?_ | refine hR _ ?_); try clear hN hE hR Qs) | ((first | refine kN _ ?_ | refine kE _ ?_ | refine kX _ _ rfl ?_ | refine kR _ ?_); try clear kN kE kX kR Qb)) | (refine And.intro (by simp only [List.length_append, List.length_cons, List.length_nil, List.nil_append, List.length_replicate]; omega) ?_) | (refine And.intro (by kernel_rfl) ?_) | (refine stpQ ?_))
 (refine z00 (by rfl) ?_ ?_ (by rfl)) <;> (repeat' (first | (exact eqA) | (refine And.intro ?_ ?_) | ((fail_if_success (with_reducible (show _ = _))); (show _ = _))))
theorem z6h (a K : Int) (up : Bool) (fs : List Fl) (s : Sv) (hf : fs.length ≤ 1000) (h : s.vs.length ≤ 1000 ∧ s.tk.length ≤ 1000 ∧ s.al.length ≤ 1000 ∧ ∀ v ∈ s.vs, v.length ≤ 1000) : CT Tryz.prog 56 [] [.agg (svE a K up fs (vwE s.vs) s)] (svR a K up fs s) (svRw s) := by
 obtain ⟨ep, vs, tk, al, re, rt, rk⟩ := s
 unfold svR svRw svE
 simp only at h ⊢
 obtain ⟨h1, h2, h3, h4⟩ := h
 have c1 := zav fs (by omega)
 have c2 := z9h vs h1 h4
 have l1 := z4i vs
 have l2 := z4T tk
 have l3 := z0D al
 have l4 := z1W fs
 generalize flE fs = F at *
 generalize vwE vs = V at *
 refine z01 z0j 1 rfl Tryz.func56 rfl rfl rfl ?_
 conv => arg 6; whnf
 repeat ((try conv => whnf); first | (with_reducible first | refine z0e (fun Qs hN hE hR => ?_) | refine z0c ?_ | refine z05 (fun Qb kN kE kX kR => ?_) | refine z07 ?_ | refine z08 ?_ | refine z0d ?_ | refine z09 ?_ | refine z0a ?_ | (show W _ _ _ (.cond _ _ _) _ _; refine z06 rfl ?_) | (refine hN _ ?_; try clear hN hE hR Qs; (try (conv => arg 6; dsimp only [ovl, List.set, List.map, ren0]))) | ((first | refine hE _ _ ?_ | refine hR _ ?_); try clear hN hE hR Qs) | ((first | refine kN _ ?_ | refine kE _ ?_ | refine kX _ _ rfl ?_ | refine kR _ ?_); try clear kN kE kX kR Qb)) | (refine ccA ([]) (c1) ?_) | (refine ccA ([]) (c2) ?_) | (refine And.intro (by simp only [List.length_append, List.length_set, List.length_replicate, List.length_cons, List.length_nil, List.nil_append]; omega) ?_) | (refine And.intro (by kernel_rfl) ?_) | (refine stpQ ?_))
 (refine z00 (by rfl) ?_ ?_ (by rfl)) <;> (repeat' (first | (exact eqA) | (refine And.intro ?_ ?_) | ((fail_if_success (with_reducible (show _ = _))); (show _ = _)))) <;> first | rfl | (simp; done) | decide
theorem zeQ (n t : Bs) (ts : List Bs) (hn : 1 ≤ n.length ∧ n.length ≤ 8) (hx : n ≠ [110, 101, 119]) (ht : 1 ≤ t.length ∧ t.length ≤ 200) (h : Rec 89 ts) : CT Tryz.prog 60 [] [.agg [.sl 3 (flE (dkOf n ts))], .str n, .str t] (.tup [.agg [.sl 3 (flE (dkOf n (ts ++ [t])))], .bool true]) [] := by
 have c1 := zcG n t hn hx (by omega)
 have c2 := zeP n t ts hn ht h
 have hac : (acE n (z0N t)).length = 2 := rfl
 generalize acE n (z0N t) = A at *
 generalize flE (dkOf n (ts ++ [t])) = d2 at *
 generalize flE (dkOf n ts) = d0 at *
 have f2 : (2 : Int) = ((2 : Nat) : Int) := rfl
 clear h hn ht hx
 refine z01 z0j 1 rfl Tryz.func60 rfl rfl rfl ?_
 conv => arg 6; whnf
 repeat ((try conv => whnf); first | (with_reducible first | refine z0e (fun Qs hN hE hR => ?_) | refine z0c ?_ | refine z05 (fun Qb kN kE kX kR => ?_) | refine z07 ?_ | refine z08 ?_ | refine z0d ?_ | refine z09 ?_ | refine z0a ?_ | (show W _ _ _ (.cond _ _ _) _ _; refine z06 rfl ?_) | (refine hN _ ?_; try clear hN hE hR Qs; (try (conv => arg 6; dsimp only [ovl, List.set, List.map, ren0]))) | ((first | refine hE _ _ ?_ | refine hR _ ?_); try clear hN hE hR Qs) | ((first | refine kN _ ?_ | refine kE _ ?_ | refine kX _ _ rfl ?_ | refine kR _ ?_); try clear kN kE kX kR Qb)) | (refine ccA ([]) (c1) ?_) | (refine ccA ([]) (c2) ?_) | (refine Exists.intro 2 (And.intro hac ?_)) | (refine z0g f2 ?_) | (refine And.intro (by kernel_rfl) ?_) | (refine stpQ ?_))
 (refine z00 (by rfl) ?_ ?_ (by rfl)) <;> (repeat' (first | (exact eqA) | (refine And.intro ?_ ?_) | ((fail_if_success (with_reducible (show _ = _))); (show _ = _)))) <;> rfl
theorem zbJ (n : Bs) (k : UInt8) (ns : List Nat) (ts : List Bs) (hl : ns.length ≤ 3) (hns : ∀ x ∈ ns, x ≤ 1000000) (hn : 1 ≤ n.length ∧ n.length ≤ 8) (hx : n ≠ [110, 101, 119]) (ht : 1 ≤ (recB k ns).length ∧ (recB k ns).length ≤ 200) (h : Rec 89 ts) : CT Tryz.prog 65 [] [.agg [.sl 3 (flE (dkOf n ts))], .str n, .int .u8 ((k.toNat : Nat) : Int), .sl 1 (ntE ns)] (.tup [.agg [.sl 3 (flE (dkOf n (ts ++ [recB k ns])))], .bool true]) [] := by
 have c1 := zfS k ns hl hns
 have c2 := zeQ n (recB k ns) ts hn hx ht h
 generalize flE (dkOf n (ts ++ [recB k ns])) = d2 at *
 generalize flE (dkOf n ts) = d0 at *
 generalize recB k ns = r at *
 clear h hn ht hx
 refine z01 z0j 1 rfl Tryz.func65 rfl rfl rfl ?_
 conv => arg 6; whnf
 repeat ((try conv => whnf); first | (with_reducible first | refine z0e (fun Qs hN hE hR => ?_) | refine z0c ?_ | refine z05 (fun Qb kN kE kX kR => ?_) | refine z07 ?_ | refine z08 ?_ | refine z0d ?_ | refine z09 ?_ | refine z0a ?_ | (show W _ _ _ (.cond _ _ _) _ _; refine z06 rfl ?_) | (refine hN _ ?_; try clear hN hE hR Qs; (try (conv => arg 6; dsimp only [ovl, List.set, List.map, ren0]))) | ((first | refine hE _ _ ?_ | refine hR _ ?_); try clear hN hE hR Qs) | ((first | refine kN _ ?_ | refine kE _ ?_ | refine kX _ _ rfl ?_ | refine kR _ ?_); try clear kN kE kX kR Qb)) | (refine ccA ([]) (c1) ?_) | (refine ccA ([]) (c2) ?_) | (refine And.intro (by kernel_rfl) ?_) | (refine stpQ ?_))
 (refine z00 (by rfl) ?_ ?_ (by rfl)) <;> (repeat' (first | (exact eqA) | (refine And.intro ?_ ?_) | ((fail_if_success (with_reducible (show _ = _))); (show _ = _)))) <;> rfl
end
end Go.Proofs.YthbdlnogojcnmaaGreatDoor
namespace Go.Proofs.YthbdlnogojcnmaaGreatDoor
set_option maxRecDepth 100000
set_option maxHeartbeats 16000000
set_option linter.unusedVariables false
set_option linter.unusedSimpArgs false
set_option linter.unusedSectionVars false
open Go.RowKit Pl
section
attribute [local irreducible] z0p z0r z0y AnsP LeP W CvE z0J
theorem zhB (a K : Nat) (ts : List Bs) (s : Sv) {n : Nat} (g : SvOk n s) (hn : n ≤ 1000) (hK : K ≤ 2) (ha : a < 2 ^ K) (hr : Rec 89 ts) (k f t : Int) (e y : Nat) (r : Bs) (ho : z02 k f t (e : Int) (y : Int) r = true) (ht : t = ((a + 1 : Nat) : Int)) (hk : k = 1) (he : (e : Int) = (s.ep : Int) + 1) (hy3 : (y : Int) = (s.rt : Int)) : CT Tryz.prog 27 [] [.agg (svE (a : Int) (K : Int) true (dkOf shardN ts) (vwE s.vs) s), .agg (ltL k f t (e : Int) (y : Int) r)] (.tup [.agg (svE (a : Int) (K : Int) true (dkOf shardN ts) (vwE (s).vs) (s)), .sl 6 [z2S a K s]]) [] := by
 have hp : (2 : Nat) ^ K ≤ 4 := by rcases (show K = 0 ∨ K = 1 ∨ K = 2 by omega) with h | h | h <;> subst h <;> decide
 have g1 := g.ep
 have g4 := g.al
 have g5 := g.rk
 have hcl := z0D s.al
 have cO := z2H k f t (e : Int) (y : Int) r
 have cC := z6h (a : Int) (K : Int) true (dkOf shardN ts) s (z2p (n := shardN) (by decide) (hr.up (by decide))).1 ⟨by have := g.vl; omega, by have := g.tl; omega, by omega, fun v hv => by have := (z0w (g.vo v hv)).1; omega⟩
 have ea : IntKind.i64.wrap ((a : Int) + 1) = ((a + 1 : Nat) : Int) := by rw [wrap_i64 (by omega) (by omega)]; omega
 have eE : IntKind.i64.wrap ((s.ep : Int) + 1) = (s.ep : Int) + 1 := by rw [wrap_i64 (by omega) (by omega)]
 rw [ho] at cO
 subst ht
 subst hk
 have ht0 : ((a + 1 : Nat) : Int) = ((a + 1 : Nat) : Int) := rfl
 have q1 : (1 : Int) = 1 := by decide
 have n3 : ¬ (1 : Int) = 3 := by decide
 have n4 : ¬ (1 : Int) = 4 := by decide
 have hy2 : ¬ (s.rt : Int) < (y : Int) := by omega
 have c1 := z4k (a : Int) (K : Int) true (dkOf shardN ts) (vwE s.vs) s ⟨g5, by (try simp only); omega⟩ g.ch
 have c2 := z95 (z1s s) K a (z63 _) hK ha
 have oL := zhr (z1i (k := 2) (z1s s))
 unfold z2S zhl
 generalize z0J (z1s s) 16 (8 - K) a = R at *
 generalize lvE (z1s s) = RL at *
 simp only [svE] at c1
 simp only [svE, svR, svRw, ltL] at cO cC ⊢
 by_cases me : (e : Int) = (s.re : Int)
 ·by_cases my : (y : Int) = (s.rt : Int)
  ·skip
   refine z01 z0j 1 rfl Tryz.func27 rfl rfl rfl ?_
   conv => arg 6; whnf
   repeat ((try conv => whnf); first | (with_reducible first | refine z0e (fun Qs hN hE hR => ?_) | refine z0c ?_ | refine z05 (fun Qb kN kE kX kR => ?_) | refine z07 ?_ | refine z08 ?_ | refine z0d ?_ | refine z09 ?_ | refine z0a ?_ | (show W _ _ _ (.cond _ _ _) _ _; refine z06 rfl ?_) | (refine hN _ ?_; try clear hN hE hR Qs; (try (conv => arg 6; dsimp only [ovl, List.set, List.map, ren0]))) | ((first | refine hE _ _ ?_ | refine hR _ ?_); try clear hN hE hR Qs) | ((first | refine kN _ ?_ | refine kE _ ?_ | refine kX _ _ rfl ?_ | refine kR _ ?_); try clear kN kE kX kR Qb)) | (refine ccA ([]) (cC) ?_) | (refine ccA ([]) (cO) ?_) | (refine Exists.intro _ (And.intro ea.symm ?_)) | (refine Exists.intro _ (And.intro eE.symm ?_)) | (refine z0G ht0 ?_) | (refine z0g q1 ?_) | (refine z0b n3 ?_) | (refine z0b n4 ?_) | (refine z0g he ?_) | (refine z0b hy2 ?_) | (refine z0G hy3 ?_) | (refine ccA [] (c1) ?_ (h5 := .inr (And.intro (by simp [own2, own1, own0]) oL))) | (refine ccA ([]) (c2) ?_) | (refine z0g me ?_) | (refine z0b me ?_) | (refine z0g my ?_) | (refine z0b my ?_) | (refine And.intro (by simp only [List.length_append, List.length_set, List.length_replicate, List.length_cons, List.length_nil, List.nil_append]; omega) ?_) | (refine And.intro (by kernel_rfl) ?_) | (refine stpQ ?_))
   (refine z00 (by rfl) ?_ ?_ (by rfl)) <;> (repeat' (first | (exact eqA) | (refine And.intro ?_ ?_) | ((fail_if_success (with_reducible (show _ = _))); (show _ = _)))) <;> first | rfl | (simp; done)
  ·skip
   refine z01 z0j 1 rfl Tryz.func27 rfl rfl rfl ?_
   conv => arg 6; whnf
   repeat ((try conv => whnf); first | (with_reducible first | refine z0e (fun Qs hN hE hR => ?_) | refine z0c ?_ | refine z05 (fun Qb kN kE kX kR => ?_) | refine z07 ?_ | refine z08 ?_ | refine z0d ?_ | refine z09 ?_ | refine z0a ?_ | (show W _ _ _ (.cond _ _ _) _ _; refine z06 rfl ?_) | (refine hN _ ?_; try clear hN hE hR Qs; (try (conv => arg 6; dsimp only [ovl, List.set, List.map, ren0]))) | ((first | refine hE _ _ ?_ | refine hR _ ?_); try clear hN hE hR Qs) | ((first | refine kN _ ?_ | refine kE _ ?_ | refine kX _ _ rfl ?_ | refine kR _ ?_); try clear kN kE kX kR Qb)) | (refine ccA ([]) (cC) ?_) | (refine ccA ([]) (cO) ?_) | (refine Exists.intro _ (And.intro ea.symm ?_)) | (refine Exists.intro _ (And.intro eE.symm ?_)) | (refine z0G ht0 ?_) | (refine z0g q1 ?_) | (refine z0b n3 ?_) | (refine z0b n4 ?_) | (refine z0g he ?_) | (refine z0b hy2 ?_) | (refine z0G hy3 ?_) | (refine ccA [] (c1) ?_ (h5 := .inr (And.intro (by simp [own2, own1, own0]) oL))) | (refine ccA ([]) (c2) ?_) | (refine z0g me ?_) | (refine z0b me ?_) | (refine z0g my ?_) | (refine z0b my ?_) | (refine And.intro (by simp only [List.length_append, List.length_set, List.length_replicate, List.length_cons, List.length_nil, List.nil_append]; omega) ?_) | (refine And.intro (by kernel_rfl) ?_) | (refine stpQ ?_))
   (refine z00 (by rfl) ?_ ?_ (by rfl)) <;> (repeat' (first | (exact eqA) | (refine And.intro ?_ ?_) | ((fail_if_success (with_reducible (show _ = _))); (show _ = _)))) <;> first | rfl | (simp; done)
 ·skip
  refine z01 z0j 1 rfl Tryz.func27 rfl rfl rfl ?_
  conv => arg 6; whnf
  repeat ((try conv => whnf); first | (with_reducible first | refine z0e (fun Qs hN hE hR => ?_) | refine z0c ?_ | refine z05 (fun Qb kN kE kX kR => ?_) | refine z07 ?_ | refine z08 ?_ | refine z0d ?_ | refine z09 ?_ | refine z0a ?_ | (show W _ _ _ (.cond _ _ _) _ _; refine z06 rfl ?_) | (refine hN _ ?_; try clear hN hE hR Qs; (try (conv => arg 6; dsimp only [ovl, List.set, List.map, ren0]))) | ((first | refine hE _ _ ?_ | refine hR _ ?_); try clear hN hE hR Qs) | ((first | refine kN _ ?_ | refine kE _ ?_ | refine kX _ _ rfl ?_ | refine kR _ ?_); try clear kN kE kX kR Qb)) | (refine ccA ([]) (cC) ?_) | (refine ccA ([]) (cO) ?_) | (refine Exists.intro _ (And.intro ea.symm ?_)) | (refine Exists.intro _ (And.intro eE.symm ?_)) | (refine z0G ht0 ?_) | (refine z0g q1 ?_) | (refine z0b n3 ?_) | (refine z0b n4 ?_) | (refine z0g he ?_) | (refine z0b hy2 ?_) | (refine z0G hy3 ?_) | (refine ccA [] (c1) ?_ (h5 := .inr (And.intro (by simp [own2, own1, own0]) oL))) | (refine ccA ([]) (c2) ?_) | (refine z0g me ?_) | (refine z0b me ?_) | (refine z0g my ?_) | (refine z0b my ?_) | (refine And.intro (by simp only [List.length_append, List.length_set, List.length_replicate, List.length_cons, List.length_nil, List.nil_append]; omega) ?_) | (refine And.intro (by kernel_rfl) ?_) | (refine stpQ ?_))
  (refine z00 (by rfl) ?_ ?_ (by rfl)) <;> (repeat' (first | (exact eqA) | (refine And.intro ?_ ?_) | ((fail_if_success (with_reducible (show _ = _))); (show _ = _)))) <;> first | rfl | (simp; done)
theorem z6C (a K : Nat) (ts : List Bs) (s : Sv) {n : Nat} (g : SvOk n s) (hn : n ≤ 1000) (hK : K ≤ 2) (ha : a < 2 ^ K) (hr : Rec 89 ts) (k f t : Int) (e y : Nat) (r : Bs) (ho : z02 k f t (e : Int) (y : Int) r = true) (ht : t = ((a + 1 : Nat) : Int)) (hk : k = 1) (he : (e : Int) = (s.ep : Int) + 1) (hy2 : (s.rt : Int) < (y : Int)) (hb : e ≤ 1000 ∧ y ≤ 1000) : CT Tryz.prog 27 [] [.agg (svE (a : Int) (K : Int) true (dkOf shardN ts) (vwE s.vs) s), .agg (ltL k f t (e : Int) (y : Int) r)] (.tup [.agg (svE (a : Int) (K : Int) true (dkOf shardN (ts ++ [2 :: (z03 e ++ z03 y ++ z03 s.al.length)])) (vwE ({ s with re := e, rt := y, rk := s.al.length }).vs) ({ s with re := e, rt := y, rk := s.al.length })), .sl 6 [z2S a K { s with re := e, rt := y, rk := s.al.length }]]) [] := by
 have hp : (2 : Nat) ^ K ≤ 4 := by rcases (show K = 0 ∨ K = 1 ∨ K = 2 by omega) with h | h | h <;> subst h <;> decide
 have g1 := g.ep
 have g4 := g.al
 have g5 := g.rk
 have hcl := z0D s.al
 have cO := z2H k f t (e : Int) (y : Int) r
 have cC := z6h (a : Int) (K : Int) true (dkOf shardN ts) s (z2p (n := shardN) (by decide) (hr.up (by decide))).1 ⟨by have := g.vl; omega, by have := g.tl; omega, by omega, fun v hv => by have := (z0w (g.vo v hv)).1; omega⟩
 have ea : IntKind.i64.wrap ((a : Int) + 1) = ((a + 1 : Nat) : Int) := by rw [wrap_i64 (by omega) (by omega)]; omega
 have eE : IntKind.i64.wrap ((s.ep : Int) + 1) = (s.ep : Int) + 1 := by rw [wrap_i64 (by omega) (by omega)]
 rw [ho] at cO
 subst ht
 subst hk
 have ht0 : ((a + 1 : Nat) : Int) = ((a + 1 : Nat) : Int) := rfl
 have q1 : (1 : Int) = 1 := by decide
 have n3 : ¬ (1 : Int) = 3 := by decide
 have n4 : ¬ (1 : Int) = 4 := by decide
 have hy3 : ((y : Nat) : Int) = ((y : Nat) : Int) := rfl
 have rn := z2o (k := 2) (x := e) (y := y) (z := s.al.length) ⟨by omega, by omega, by omega⟩
 have cW := zbJ shardN 2 [e, y, s.al.length] ts (by simp) (fun x hx => by simp only [List.mem_cons, List.not_mem_nil, or_false] at hx; rcases hx with rfl | rfl | rfl <;> omega) (by decide) (by decide) (by rw [zgd]; exact rn.1) hr
 rw [zgd] at cW
 unfold shardN at cW
 have eN : shardN = [115, 104, 97, 114, 100] := rfl
 rw [← eN] at cW
 have c1 := z4k (a : Int) (K : Int) true (dkOf shardN (ts ++ [2 :: (z03 e ++ z03 y ++ z03 s.al.length)])) (vwE s.vs) { s with re := e, rt := y, rk := s.al.length } ⟨Nat.le_refl _, by (try simp only); omega⟩ g.ch
 have c2 := z95 (z1s { s with re := e, rt := y, rk := s.al.length }) K a (z63 _) hK ha
 have oL := zhr (z1i (k := 2) (z1s { s with re := e, rt := y, rk := s.al.length }))
 unfold z2S zhl
 generalize z0J (z1s { s with re := e, rt := y, rk := s.al.length }) 16 (8 - K) a = R at *
 generalize lvE (z1s { s with re := e, rt := y, rk := s.al.length }) = RL at *
 simp only [svE] at c1
 generalize dkOf shardN (ts ++ [2 :: (z03 e ++ z03 y ++ z03 s.al.length)]) = d2 at *
 simp only [svE, svR, svRw, ltL] at cO cC ⊢
 by_cases me : (e : Int) = (s.re : Int)
 ·by_cases my : (y : Int) = (s.rt : Int)
  ·skip
   refine z01 z0j 1 rfl Tryz.func27 rfl rfl rfl ?_
   conv => arg 6; whnf
   repeat ((try conv => whnf); first | (with_reducible first | refine z0e (fun Qs hN hE hR => ?_) | refine z0c ?_ | refine z05 (fun Qb kN kE kX kR => ?_) | refine z07 ?_ | refine z08 ?_ | refine z0d ?_ | refine z09 ?_ | refine z0a ?_ | (show W _ _ _ (.cond _ _ _) _ _; refine z06 rfl ?_) | (refine hN _ ?_; try clear hN hE hR Qs; (try (conv => arg 6; dsimp only [ovl, List.set, List.map, ren0]))) | ((first | refine hE _ _ ?_ | refine hR _ ?_); try clear hN hE hR Qs) | ((first | refine kN _ ?_ | refine kE _ ?_ | refine kX _ _ rfl ?_ | refine kR _ ?_); try clear kN kE kX kR Qb)) | (refine ccA ([]) (cC) ?_) | (refine ccA ([]) (cO) ?_) | (refine Exists.intro _ (And.intro ea.symm ?_)) | (refine Exists.intro _ (And.intro eE.symm ?_)) | (refine z0G ht0 ?_) | (refine z0g q1 ?_) | (refine z0b n3 ?_) | (refine z0b n4 ?_) | (refine z0g he ?_) | (refine z0g hy2 ?_) | (refine z0G hy3 ?_) | (refine Exists.intro s.al.length (And.intro hcl ?_)) | (refine z3c ([]) (cW) (by ((repeat' (first | (exact trivial) | (exact rfl) | (decide) | (refine And.intro ?_ ?_))); first | done | fail)) (by ((repeat' (first | (exact trivial) | (exact rfl) | (decide) | (refine And.intro ?_ ?_))); first | done | fail)) (by decide) (by rfl) (by first | exact .inl rfl | (refine .inr ⟨?_, ?_⟩ <;> simp [own2, own1, own0, ownE])) ?_) | (refine ccA [] (c1) ?_ (h5 := .inr (And.intro (by simp [own2, own1, own0]) oL))) | (refine ccA ([]) (c2) ?_) | (refine z0g me ?_) | (refine z0b me ?_) | (refine z0g my ?_) | (refine z0b my ?_) | (refine And.intro (by simp only [List.length_append, List.length_set, List.length_replicate, List.length_cons, List.length_nil, List.nil_append]; omega) ?_) | (refine And.intro (by kernel_rfl) ?_) | (refine stpQ ?_))
   (refine z00 (by rfl) ?_ ?_ (by rfl)) <;> (repeat' (first | (exact eqA) | (refine And.intro ?_ ?_) | ((fail_if_success (with_reducible (show _ = _))); (show _ = _)))) <;> first | rfl | (simp; done)
  ·skip
   refine z01 z0j 1 rfl Tryz.func27 rfl rfl rfl ?_
   conv => arg 6; whnf
   repeat ((try conv => whnf); first | (with_reducible first | refine z0e (fun Qs hN hE hR => ?_) | refine z0c ?_ | refine z05 (fun Qb kN kE kX kR => ?_) | refine z07 ?_ | refine z08 ?_ | refine z0d ?_ | refine z09 ?_ | refine z0a ?_ | (show W _ _ _ (.cond _ _ _) _ _; refine z06 rfl ?_) | (refine hN _ ?_; try clear hN hE hR Qs; (try (conv => arg 6; dsimp only [ovl, List.set, List.map, ren0]))) | ((first | refine hE _ _ ?_ | refine hR _ ?_); try clear hN hE hR Qs) | ((first | refine kN _ ?_ | refine kE _ ?_ | refine kX _ _ rfl ?_ | refine kR _ ?_); try clear kN kE kX kR Qb)) | (refine ccA ([]) (cC) ?_) | (refine ccA ([]) (cO) ?_) | (refine Exists.intro _ (And.intro ea.symm ?_)) | (refine Exists.intro _ (And.intro eE.symm ?_)) | (refine z0G ht0 ?_) | (refine z0g q1 ?_) | (refine z0b n3 ?_) | (refine z0b n4 ?_) | (refine z0g he ?_) | (refine z0g hy2 ?_) | (refine z0G hy3 ?_) | (refine Exists.intro s.al.length (And.intro hcl ?_)) | (refine z3c ([]) (cW) (by ((repeat' (first | (exact trivial) | (exact rfl) | (decide) | (refine And.intro ?_ ?_))); first | done | fail)) (by ((repeat' (first | (exact trivial) | (exact rfl) | (decide) | (refine And.intro ?_ ?_))); first | done | fail)) (by decide) (by rfl) (by first | exact .inl rfl | (refine .inr ⟨?_, ?_⟩ <;> simp [own2, own1, own0, ownE])) ?_) | (refine ccA [] (c1) ?_ (h5 := .inr (And.intro (by simp [own2, own1, own0]) oL))) | (refine ccA ([]) (c2) ?_) | (refine z0g me ?_) | (refine z0b me ?_) | (refine z0g my ?_) | (refine z0b my ?_) | (refine And.intro (by simp only [List.length_append, List.length_set, List.length_replicate, List.length_cons, List.length_nil, List.nil_append]; omega) ?_) | (refine And.intro (by kernel_rfl) ?_) | (refine stpQ ?_))
   (refine z00 (by rfl) ?_ ?_ (by rfl)) <;> (repeat' (first | (exact eqA) | (refine And.intro ?_ ?_) | ((fail_if_success (with_reducible (show _ = _))); (show _ = _)))) <;> first | rfl | (simp; done)
 ·skip
  refine z01 z0j 1 rfl Tryz.func27 rfl rfl rfl ?_
  conv => arg 6; whnf
  repeat ((try conv => whnf); first | (with_reducible first | refine z0e (fun Qs hN hE hR => ?_) | refine z0c ?_ | refine z05 (fun Qb kN kE kX kR => ?_) | refine z07 ?_ | refine z08 ?_ | refine z0d ?_ | refine z09 ?_ | refine z0a ?_ | (show W _ _ _ (.cond _ _ _) _ _; refine z06 rfl ?_) | (refine hN _ ?_; try clear hN hE hR Qs; (try (conv => arg 6; dsimp only [ovl, List.set, List.map, ren0]))) | ((first | refine hE _ _ ?_ | refine hR _ ?_); try clear hN hE hR Qs) | ((first | refine kN _ ?_ | refine kE _ ?_ | refine kX _ _ rfl ?_ | refine kR _ ?_); try clear kN kE kX kR Qb)) | (refine ccA ([]) (cC) ?_) | (refine ccA ([]) (cO) ?_) | (refine Exists.intro _ (And.intro ea.symm ?_)) | (refine Exists.intro _ (And.intro eE.symm ?_)) | (refine z0G ht0 ?_) | (refine z0g q1 ?_) | (refine z0b n3 ?_) | (refine z0b n4 ?_) | (refine z0g he ?_) | (refine z0g hy2 ?_) | (refine z0G hy3 ?_) | (refine Exists.intro s.al.length (And.intro hcl ?_)) | (refine z3c ([]) (cW) (by ((repeat' (first | (exact trivial) | (exact rfl) | (decide) | (refine And.intro ?_ ?_))); first | done | fail)) (by ((repeat' (first | (exact trivial) | (exact rfl) | (decide) | (refine And.intro ?_ ?_))); first | done | fail)) (by decide) (by rfl) (by first | exact .inl rfl | (refine .inr ⟨?_, ?_⟩ <;> simp [own2, own1, own0, ownE])) ?_) | (refine ccA [] (c1) ?_ (h5 := .inr (And.intro (by simp [own2, own1, own0]) oL))) | (refine ccA ([]) (c2) ?_) | (refine z0g me ?_) | (refine z0b me ?_) | (refine z0g my ?_) | (refine z0b my ?_) | (refine And.intro (by simp only [List.length_append, List.length_set, List.length_replicate, List.length_cons, List.length_nil, List.nil_append]; omega) ?_) | (refine And.intro (by kernel_rfl) ?_) | (refine stpQ ?_))
  (refine z00 (by rfl) ?_ ?_ (by rfl)) <;> (repeat' (first | (exact eqA) | (refine And.intro ?_ ?_) | ((fail_if_success (with_reducible (show _ = _))); (show _ = _)))) <;> first | rfl | (simp; done)
end
end Go.Proofs.YthbdlnogojcnmaaGreatDoor
namespace Go.Proofs.YthbdlnogojcnmaaGreatDoor
set_option linter.unusedVariables false
set_option linter.unusedSimpArgs false
set_option linter.unusedSectionVars false
open Go.RowKit Pl
section
attribute [local irreducible] z0p z0r z0y AnsP LeP W CvE z0J
set_option maxRecDepth 100000 in
set_option maxHeartbeats 16000000 in
theorem zhI (a K : Nat) (ts : List Bs) (s : Sv) {n : Nat} (g : SvOk n s) (hn : n ≤ 1000) (hK : K ≤ 2) (ha : a < 2 ^ K) (hr : Rec 89 ts) (k f t : Int) (e y : Nat) (r : Bs) (ho : z02 k f t (e : Int) (y : Int) r = true) (ht : t = ((a + 1 : Nat) : Int)) (hk : k = 4) (hl : ¬ (e : Int) ≤ (s.ep : Int)) (me : (e : Int) = (s.re : Int)) (my : (y : Int) = (s.rt : Int)) (hb : e ≤ 1000 ∧ y ≤ 1000) : CT Tryz.prog 27 [] [.agg (svE (a : Int) (K : Int) true (dkOf shardN ts) (vwE s.vs) s), .agg (ltL k f t (e : Int) (y : Int) r)] (.tup [.agg (svE (a : Int) (K : Int) true (dkOf shardN (ts ++ [3 :: z03 e])) (vwE (z11 s).vs) (z11 s)), .sl 6 [zcE a e y]]) [] := by
 have hp : (2 : Nat) ^ K ≤ 4 := by rcases (show K = 0 ∨ K = 1 ∨ K = 2 by omega) with h | h | h <;> subst h <;> decide
 have g1 := g.ep
 have g4 := g.al
 have g5 := g.rk
 have hcl := z0D s.al
 have cO := z2H k f t (e : Int) (y : Int) r
 have cC := z6h (a : Int) (K : Int) true (dkOf shardN ts) s (z2p (n := shardN) (by decide) (hr.up (by decide))).1 ⟨by have := g.vl; omega, by have := g.tl; omega, by omega, fun v hv => by have := (z0w (g.vo v hv)).1; omega⟩
 have ea : IntKind.i64.wrap ((a : Int) + 1) = ((a + 1 : Nat) : Int) := by rw [wrap_i64 (by omega) (by omega)]; omega
 have eE : IntKind.i64.wrap ((s.ep : Int) + 1) = (s.ep : Int) + 1 := by rw [wrap_i64 (by omega) (by omega)]
 rw [ho] at cO
 subst ht
 subst hk
 have ht0 : ((a + 1 : Nat) : Int) = ((a + 1 : Nat) : Int) := rfl
 have n1 : ¬ (4 : Int) = 1 := by decide
 have n3 : ¬ (4 : Int) = 3 := by decide
 have q4 : (4 : Int) = 4 := by decide
 have rn := z2o (k := 3) (x := e) (y := y) (z := 0) ⟨by omega, by omega, by omega⟩
 have cW := zbJ shardN 3 [e] ts (by simp) (fun x hx => by simp only [List.mem_cons, List.not_mem_nil, or_false] at hx; subst hx; omega) (by decide) (by decide) (by rw [zhT]; exact rn.2.2) hr
 rw [zhT] at cW
 have eN : shardN = [115, 104, 97, 114, 100] := rfl
 have hV : (vwE s.vs).length ≤ 10 := by rw [z4i, g.vl]; omega
 have c3 := zfH (a : Int) (K : Int) true (dkOf shardN (ts ++ [3 :: z03 e])) (vwE s.vs) hV s g (by omega)
 have eV : vwE (z11 s).vs = vwE s.vs ++ [[.sl 2 (lvE (z1s s))]] := by show vwE (s.vs ++ [z1s s]) = _; rw [zek]; rfl
 rw [eV]
 unfold zcE
 generalize dkOf shardN (ts ++ [3 :: z03 e]) = d2 at *
 unfold svH svB z11 at c3
 unfold z11
 simp only at c3 ⊢
 generalize lvE (z1s s) = RL at *
 simp only [svE, svR, svRw, ltL] at cO cC ⊢
 refine z01 z0j 1 rfl Tryz.func27 rfl rfl rfl ?_
 conv => arg 6; whnf
 repeat ((try conv => whnf); first | (with_reducible first | refine z0e (fun Qs hN hE hR => ?_) | refine z0c ?_ | refine z05 (fun Qb kN kE kX kR => ?_) | refine z07 ?_ | refine z08 ?_ | refine z0d ?_ | refine z09 ?_ | refine z0a ?_ | (show W _ _ _ (.cond _ _ _) _ _; refine z06 rfl ?_) | (refine hN _ ?_; try clear hN hE hR Qs; (try (conv => arg 6; dsimp only [ovl, List.set, List.map, ren0]))) | ((first | refine hE _ _ ?_ | refine hR _ ?_); try clear hN hE hR Qs) | ((first | refine kN _ ?_ | refine kE _ ?_ | refine kX _ _ rfl ?_ | refine kR _ ?_); try clear kN kE kX kR Qb)) | (refine ccA ([]) (cC) ?_) | (refine ccA ([]) (cO) ?_) | (refine Exists.intro _ (And.intro ea.symm ?_)) | (refine Exists.intro _ (And.intro eE.symm ?_)) | (refine z0G ht0 ?_) | (refine z0b n1 ?_) | (refine z0b n3 ?_) | (refine z0g q4 ?_) | (refine z0b hl ?_) | (refine z0g me ?_) | (refine z0g my ?_) | (refine z3c ([]) (cW) (by ((repeat' (first | (exact trivial) | (exact rfl) | (decide) | (refine And.intro ?_ ?_))); first | done | fail)) (by ((repeat' (first | (exact trivial) | (exact rfl) | (decide) | (refine And.intro ?_ ?_))); first | done | fail)) (by decide) (by rfl) (by first | exact .inl rfl | (refine .inr ⟨?_, ?_⟩ <;> simp [own2, own1, own0, ownE])) ?_) | (refine ccB ([_, _, _, _]) (c3) ?_) | (refine And.intro (by simp only [List.length_append, List.length_set, List.length_replicate, List.length_cons, List.length_nil, List.nil_append]; omega) ?_) | (refine And.intro (by kernel_rfl) ?_) | (refine stpQ ?_))
 (refine z00 (by rfl) ?_ ?_ (by rfl)) <;> (repeat' (first | (exact eqA) | (refine And.intro ?_ ?_) | ((fail_if_success (with_reducible (show _ = _))); (show _ = _)))) <;> first | rfl | (simp; done)
end
end Go.Proofs.YthbdlnogojcnmaaGreatDoor
