/- Functions by content: a shard of the reference that is drawn. Functions by content: the laws compare a shard with itself. -/
import Derived.Test.YtfjbinbpgdiafaaGreatDoorLsx
import Derived.Test.YtfjbinbpgdiafaaGreatDoorSzd
import Derived.Test.YtfjbinbpgdiafaaGreatDoorTyL
import Derived.Test.YtfjbinbpgdiafaaGreatDoorFc
namespace Go.Proofs.YtfjbinbpgdiafaaGreatDoor
set_option maxRecDepth 100000
set_option maxHeartbeats 8000000
set_option linter.unusedVariables false
set_option linter.unusedSimpArgs false
set_option linter.unusedSectionVars false
open Go.RowKit Pl
section
attribute [local irreducible] z0r z0s z0z AnsP LeP W CvE z0A
theorem z9i (c : Bs) (i : Nat) (h : Int) (hc : (c.length : Int) ≤ 1048576) (hi : i ≤ c.length) : ∃ (u : Ch) (i' : Nat) (h' : Int), (z0g u.1 u.2.1 u.2.2 = true ∧ u.1 ≤ 30) ∧ i' ≤ c.length ∧ CT Tryz.prog 100 [curE c i h] [.ptr 1 0 0] (.agg (chL u)) [curE c i' h'] := by
 obtain ⟨x, i1, h1, hx, hi1, k1⟩ := z2a c i h 30 hc hi (by omega)
 obtain ⟨n, i2, h2, hn, hi2, k2⟩ := z4i c i1 h1 hc hi1
 obtain ⟨v, i3, h3, hv, hi3, k3⟩ := z72 c i2 h2 hc hi2
 obtain ⟨b, i4, h4, hi4, k4⟩ := zg7 c i3 h3 5 hc hi3 (by omega)
 cases b
 ·refine ⟨(((1 + x : Nat) : Int), n, v), i4, h4, ⟨?_, (by show ((1 + x : Nat) : Int) ≤ 30; omega)⟩, hi4, z01 z0v 2 rfl Tryz.func100 rfl rfl rfl ?_⟩
  ·unfold z0g
   simp only [hn.1, hv.1, Bool.or_true, Bool.and_true, Bool.and_eq_true, decide_eq_true_eq]
   omega
  ·repeat ((try conv => whnf); first | (with_reducible first | refine z0f (fun Qs hN hE hR => ?_) | refine z0d ?_ | refine z04 (fun Qb kN kE kX kR => ?_) | refine z06 ?_ | refine z07 ?_ | refine z0e ?_ | refine z08 ?_ | refine z09 ?_ | (show W _ _ _ (.cond _ _ _) _ _; refine z05 rfl ?_) | (refine hN _ ?_; try clear hN hE hR Qs; (try (conv => arg 6; dsimp only [ovl, List.set, List.map, ren0]))) | ((first | refine hE _ _ ?_ | refine hR _ ?_); try clear hN hE hR Qs) | ((first | refine kN _ ?_ | refine kE _ ?_ | refine kX _ _ rfl ?_ | refine kR _ ?_); try clear kN kE kX kR Qb)) | (refine ccB ([1]) (k1) ?_) | (refine ccB ([1]) (k2) ?_) | (refine ccB ([1]) (k3) ?_) | (refine ccB ([1]) (k4) ?_) | (refine z8B (by omega) ?_) | (refine stpQ ?_))
   (refine z00 (by rfl) ?_ ?_ (by rfl)) <;> (repeat' (first | (exact eqA) | (refine And.intro ?_ ?_) | ((fail_if_success (with_reducible (show _ = _))); (show _ = _))))
 ·refine ⟨(((1 + x : Nat) : Int), n, []), i4, h4, ⟨?_, (by show ((1 + x : Nat) : Int) ≤ 30; omega)⟩, hi4, z01 z0v 2 rfl Tryz.func100 rfl rfl rfl ?_⟩
  ·unfold z0g
   simp only [hn.1, List.isEmpty_nil, Bool.true_or, Bool.and_true, Bool.and_eq_true, decide_eq_true_eq]
   omega
  ·repeat ((try conv => whnf); first | (with_reducible first | refine z0f (fun Qs hN hE hR => ?_) | refine z0d ?_ | refine z04 (fun Qb kN kE kX kR => ?_) | refine z06 ?_ | refine z07 ?_ | refine z0e ?_ | refine z08 ?_ | refine z09 ?_ | (show W _ _ _ (.cond _ _ _) _ _; refine z05 rfl ?_) | (refine hN _ ?_; try clear hN hE hR Qs; (try (conv => arg 6; dsimp only [ovl, List.set, List.map, ren0]))) | ((first | refine hE _ _ ?_ | refine hR _ ?_); try clear hN hE hR Qs) | ((first | refine kN _ ?_ | refine kE _ ?_ | refine kX _ _ rfl ?_ | refine kR _ ?_); try clear kN kE kX kR Qb)) | (refine ccB ([1]) (k1) ?_) | (refine ccB ([1]) (k2) ?_) | (refine ccB ([1]) (k3) ?_) | (refine ccB ([1]) (k4) ?_) | (refine z8B (by omega) ?_) | (refine stpQ ?_))
   (refine z00 (by rfl) ?_ ?_ (by rfl)) <;> (repeat' (first | (exact eqA) | (refine And.intro ?_ ?_) | ((fail_if_success (with_reducible (show _ = _))); (show _ = _))))
end
def IdLe (s : Sv) : Prop := ∀ u ∈ s.al, u.1 ≤ 30
inductive LsD (c : Bs) (a K : Nat) : Nat → List Bs → Nat → Nat → Int → List Bs → Nat → Nat → Int → Prop
 | take {k ts tr i h x i1 h1 d i2 h2 u i3 h3} (kx : CT Tryz.prog 71 [curE c i h] [.ptr 1 0 0, .int .i64 22] (.int .i64 ((x : Nat) : Int)) [curE c i1 h1]) (hx : k < x ∧ x < 22) (kd : CT Tryz.prog 71 [curE c i1 h1] [.ptr 1 0 0, .int .i64 7] (.int .i64 ((d : Nat) : Int)) [curE c i2 h2]) (hd : d < 3) (hu : z0g u.1 u.2.1 u.2.2 = true) (hid : u.1 ≤ 30) (ku : CT Tryz.prog 100 [curE c i2 h2] [.ptr 1 0 0] (.agg (chL u)) [curE c i3 h3]) : LsD c a K k ts tr i h (tkT (a : Int) (K : Int) ts (svOf (a : Int) (K : Int) ts) u) tr i3 h3
 | prep {k ts tr i h x i1 h1 d i2 h2 b i3 h3 z} (kx : CT Tryz.prog 71 [curE c i h] [.ptr 1 0 0, .int .i64 22] (.int .i64 ((x : Nat) : Int)) [curE c i1 h1]) (hx : k < x ∧ x < 22) (kd : CT Tryz.prog 71 [curE c i1 h1] [.ptr 1 0 0, .int .i64 7] (.int .i64 ((d : Nat) : Int)) [curE c i2 h2]) (hd : d = 3 ∨ d = 4) (hb : b < 2) (kb : CT Tryz.prog 71 [curE c i2 h2] [.ptr 1 0 0, .int .i64 2] (.int .i64 ((b : Nat) : Int)) [curE c i3 h3]) (hz : z3w (a : Int) (svOf (a : Int) (K : Int) ts) (z0a 1 0 ((a + 1 : Nat) : Int) (((svOf (a : Int) (K : Int) ts).ep + 1 : Nat) : Int) ((tr + b + 1 : Nat) : Int) []) 1 ((a + 1 : Nat) : Int) (((svOf (a : Int) (K : Int) ts).ep + 1 : Nat) : Int) ((tr + b + 1 : Nat) : Int) = z) : LsD c a K k ts tr i h (ts ++ z2S (svOf (a : Int) (K : Int) ts) (((svOf (a : Int) (K : Int) ts).ep + 1 : Nat) : Int) ((tr + b + 1 : Nat) : Int) z) (tr + b) i3 h3
 | com {k ts tr i h x i1 h1 d i2 h2 z} (kx : CT Tryz.prog 71 [curE c i h] [.ptr 1 0 0, .int .i64 22] (.int .i64 ((x : Nat) : Int)) [curE c i1 h1]) (hx : k < x ∧ x < 22) (kd : CT Tryz.prog 71 [curE c i1 h1] [.ptr 1 0 0, .int .i64 7] (.int .i64 ((d : Nat) : Int)) [curE c i2 h2]) (hd : d = 5) (hz : z3w (a : Int) (svOf (a : Int) (K : Int) ts) (z0a 4 0 ((a + 1 : Nat) : Int) (((svOf (a : Int) (K : Int) ts).ep + 1 : Nat) : Int) ((svOf (a : Int) (K : Int) ts).rt : Int) []) 4 ((a + 1 : Nat) : Int) (((svOf (a : Int) (K : Int) ts).ep + 1 : Nat) : Int) ((svOf (a : Int) (K : Int) ts).rt : Int) = z) : LsD c a K k ts tr i h (ts ++ z2S (svOf (a : Int) (K : Int) ts) (((svOf (a : Int) (K : Int) ts).ep + 1 : Nat) : Int) ((svOf (a : Int) (K : Int) ts).rt : Int) z) tr i2 h2
 | abo {k ts tr i h x i1 h1 d i2 h2 z} (kx : CT Tryz.prog 71 [curE c i h] [.ptr 1 0 0, .int .i64 22] (.int .i64 ((x : Nat) : Int)) [curE c i1 h1]) (hx : k < x ∧ x < 22) (kd : CT Tryz.prog 71 [curE c i1 h1] [.ptr 1 0 0, .int .i64 7] (.int .i64 ((d : Nat) : Int)) [curE c i2 h2]) (hd : d = 6) (hz : z3w (a : Int) (svOf (a : Int) (K : Int) ts) (z0a 3 0 ((a + 1 : Nat) : Int) (((svOf (a : Int) (K : Int) ts).ep + 1 : Nat) : Int) ((svOf (a : Int) (K : Int) ts).rt : Int) []) 3 ((a + 1 : Nat) : Int) (((svOf (a : Int) (K : Int) ts).ep + 1 : Nat) : Int) ((svOf (a : Int) (K : Int) ts).rt : Int) = z) : LsD c a K k ts tr i h (ts ++ z2S (svOf (a : Int) (K : Int) ts) (((svOf (a : Int) (K : Int) ts).ep + 1 : Nat) : Int) ((svOf (a : Int) (K : Int) ts).rt : Int) z) tr i2 h2
theorem ls_lt {c : Bs} {a K k : Nat} {ts : List Bs} {tr i : Nat} {h : Int} {ts' : List Bs} {tr' i' : Nat} {h' : Int} (hr : LsD c a K k ts tr i h ts' tr' i' h') : k < 22 := by
 cases hr <;> omega
theorem zgh {c : Bs} {a K k : Nat} {ts : List Bs} {tr i : Nat} {h : Int} {ts' : List Bs} {tr' i' : Nat} {h' : Int} (hr : LsD c a K k ts tr i h ts' tr' i' h') (g : LogOk (a : Int) (K : Int) k ts (svOf (a : Int) (K : Int) ts)) (hk : k ≤ 30) (ht : tr ≤ k) (hrt : (svOf (a : Int) (K : Int) ts).rt ≤ tr + 1) : LogOk (a : Int) (K : Int) (k + 1) ts' (svOf (a : Int) (K : Int) ts') ∧ tr' ≤ k + 1 ∧ (svOf (a : Int) (K : Int) ts').rt ≤ tr' + 1 := by
 have hrtx : ∀ (s : Sv) (e y : Int) (z : Hr) (m : Nat), s.rt ≤ m → y.toNat ≤ m → (z0L s e y z).rt ≤ m := fun s e y z m h1 h2 => by
  cases z <;> first | exact h1 | exact h2 | exact Nat.zero_le _
 cases hr with
 | take kx hx kd hd hu hid ku => exact ⟨⟨(z5i g _ hu).rc, rfl⟩, by omega, by
    rw [← (z5i g _ hu).sv]; unfold tkS; split <;> exact hrt⟩
 | prep kx hx kd hd hb kb hz => exact ⟨⟨(z1u g (by omega) hz).rc, rfl⟩, by omega, by
    rw [← (z1u g (by omega) hz).sv]; exact hrtx _ _ _ _ _ (by omega) (by omega)⟩
 | com kx hx kd hd hz => exact ⟨⟨(z1u g (by omega) hz).rc, rfl⟩, by omega, by
    rw [← (z1u g (by omega) hz).sv]; exact hrtx _ _ _ _ _ (by omega) (by omega)⟩
 | abo kx hx kd hd hz => exact ⟨⟨(z1u g (by omega) hz).rc, rfl⟩, by omega, by
    rw [← (z1u g (by omega) hz).sv]; exact hrtx _ _ _ _ _ (by omega) (by omega)⟩
theorem rd_id {c : Bs} {a K k : Nat} {ts : List Bs} {tr i : Nat} {h : Int} {ts' : List Bs} {tr' i' : Nat} {h' : Int} (hr : LsD c a K k ts tr i h ts' tr' i' h') (g : LogOk (a : Int) (K : Int) k ts (svOf (a : Int) (K : Int) ts)) (hk : k ≤ 30) (hI : IdLe (svOf (a : Int) (K : Int) ts)) : IdLe (svOf (a : Int) (K : Int) ts') := by
 have hx : ∀ (s : Sv) (e y : Int) (z : Hr), IdLe s → IdLe (z0L s e y z) := fun s e y z h => by
  cases z <;> exact h
 cases hr with
 | take kx hx kd hd hu hid ku =>
   rw [← (z5i g _ hu).sv]
   unfold tkS
   split
   ·intro x hx2
    rcases List.mem_append.1 hx2 with h | h
    ·exact hI x h
    ·rw [List.mem_singleton.1 h]; exact hid
   ·exact hI
 | prep kx hx' kd hd hb kb hz => rw [← (z1u g (by omega) hz).sv]; exact hx _ _ _ _ hI
 | com kx hx' kd hd hz => rw [← (z1u g (by omega) hz).sv]; exact hx _ _ _ _ hI
 | abo kx hx' kd hd hz => rw [← (z1u g (by omega) hz).sv]; exact hx _ _ _ _ hI
inductive LsR (c : Bs) (a K : Nat) : Nat → List Bs → Nat → Nat → Int → List Bs → Nat → Int → Prop
 | stop {k ts tr i h x i1 h1} (kx : CT Tryz.prog 71 [curE c i h] [.ptr 1 0 0, .int .i64 22] (.int .i64 ((x : Nat) : Int)) [curE c i1 h1]) (hx : ¬ k < x) : LsR c a K k ts tr i h ts i1 h1
 | step {k ts tr i h ts' tr' i' h' tF iF hF} (hr : LsD c a K k ts tr i h ts' tr' i' h') (hs : LsR c a K (k + 1) ts' tr' i' h' tF iF hF) : LsR c a K k ts tr i h tF iF hF
theorem sr_all (c : Bs) (a K : Nat) (hc : (c.length : Int) ≤ 1048576) : ∀ (f k : Nat) (ts : List Bs) (tr i : Nat) (h : Int), k + f = 22 → i ≤ c.length → LogOk (a : Int) (K : Int) k ts (svOf (a : Int) (K : Int) ts) → tr ≤ k → (svOf (a : Int) (K : Int) ts).rt ≤ tr + 1 → IdLe (svOf (a : Int) (K : Int) ts) →
 ∃ tF iF hF, LsR c a K k ts tr i h tF iF hF ∧ (LogOk (a : Int) (K : Int) 22 tF (svOf (a : Int) (K : Int) tF) ∧ (svOf (a : Int) (K : Int) tF).rt ≤ 30 ∧ IdLe (svOf (a : Int) (K : Int) tF)) ∧ iF ≤ c.length := by
 intro f
 induction f with
 | zero =>
   intro k ts tr i h hf hi g ht hrt hI
   obtain ⟨x, i1, h1, hx, hi1, kx⟩ := z24 c i h 22 hc hi (by decide)
   exact ⟨ts, i1, h1, .stop kx (by omega), ⟨g.up (by omega), by omega, hI⟩, hi1⟩
 | succ f ih =>
   intro k ts tr i h hf hi g ht hrt hI
   obtain ⟨x, i1, h1, hx, hi1, kx⟩ := z24 c i h 22 hc hi (by decide)
   by_cases hkx : k < x
   ·obtain ⟨d, i2, h2, hd, hi2, kd⟩ := z24 c i1 h1 7 hc hi1 (by decide)
    have go : ∀ {ts' tr' i' h'}, LsD c a K k ts tr i h ts' tr' i' h' → i' ≤ c.length → ∃ tF iF hF, LsR c a K k ts tr i h tF iF hF ∧ (LogOk (a : Int) (K : Int) 22 tF (svOf (a : Int) (K : Int) tF) ∧ (svOf (a : Int) (K : Int) tF).rt ≤ 30 ∧ IdLe (svOf (a : Int) (K : Int) tF)) ∧ iF ≤ c.length := fun {ts' tr' i' h'} hr hi' => by
     obtain ⟨g', ht', hrt'⟩ := zgh hr g (by omega) ht hrt
     obtain ⟨tF, iF, hF, hs, gF, hiF⟩ := ih (k + 1) ts' tr' i' h' (by omega) hi' g' ht' hrt' (rd_id hr g (by omega) hI)
     exact ⟨tF, iF, hF, .step hr hs, gF, hiF⟩
    by_cases h3 : d < 3
    ·obtain ⟨u, i3, h3', hu, hi3, ku⟩ := z9i c i2 h2 hc hi2
     exact go (.take kx ⟨hkx, hx⟩ kd h3 hu.1 hu.2 ku) hi3
    ·by_cases h4 : d = 3 ∨ d = 4
     ·obtain ⟨b, i3, h3', hb, hi3, kb⟩ := z24 c i2 h2 2 hc hi2 (by decide)
      exact go (.prep kx ⟨hkx, hx⟩ kd h4 hb kb rfl) hi3
     ·by_cases h5 : d = 5
      ·exact go (.com kx ⟨hkx, hx⟩ kd h5 rfl) hi2
      ·exact go (.abo kx ⟨hkx, hx⟩ kd (by omega) rfl) hi2
   ·exact ⟨ts, i1, h1, .stop kx hkx, ⟨g.up (by omega), by omega, hI⟩, hi1⟩
section
attribute [local irreducible] z0r z0s z0z AnsP LeP W CvE z0A
theorem rd_w (Q : Pst) (c : Bs) (a K : Nat) (hK : K ≤ 2) (ha : a < 2 ^ K) {k : Nat} {ts : List Bs} {tr i : Nat} {h : Int} {ts' : List Bs} {tr' i' : Nat} {h' : Int} (hr : LsD c a K k ts tr i h ts' tr' i' h') (g : LogOk (a : Int) (K : Int) k ts (svOf (a : Int) (K : Int) ts)) (hk : k ≤ 30) (htr : tr ≤ 60)
 (hQ0 : ∀ S1, LeP 2 S1 ⟨[(0, .ptr 1 0 0), (2, .ptr 2 0 0), (4, .int .i64 ((a : Nat) : Int)), (5, .ptr 3 0 0), (6, .int .i64 ((tr' : Nat) : Int)), (7, .int .i64 ((k + 1 : Nat) : Int))], [(1, some (curE c i' h')), (2, some (.box [.int .i64 0, .int .i64 0, .bool false, .val nilV, .int .i64 0, .val nilV, .val nilV, .val nilV, .int .i64 0, .int .i64 0, .int .i64 0])), (3, some (.box [.int .i64 (a : Int), .int .i64 (K : Int), .bool true, .sl 3 (flE (dkOf shardN ts')), .int .i64 ((svOf (a : Int) (K : Int) ts').ep : Int), .ref 4, .ref 5, .ref 6, .int .i64 ((svOf (a : Int) (K : Int) ts').re : Int), .int .i64 ((svOf (a : Int) (K : Int) ts').rt : Int), .int .i64 ((svOf (a : Int) (K : Int) ts').rk : Int)])), (4, some (.row 1 (vwE (svOf (a : Int) (K : Int) ts').vs))), (5, some (.row 1 (ntE (svOf (a : Int) (K : Int) ts').tk))), (6, some (.row 3 (chE (svOf (a : Int) (K : Int) ts').al)))], 7⟩ → Q .normal S1) :
 W Tryz.prog ttA 2 z4u Q ⟨[(0, .ptr 1 0 0), (2, .ptr 2 0 0), (4, .int .i64 ((a : Nat) : Int)), (5, .ptr 3 0 0), (6, .int .i64 ((tr : Nat) : Int)), (7, .int .i64 ((k : Nat) : Int))], [(1, some (curE c i h)), (2, some (.box [.int .i64 0, .int .i64 0, .bool false, .val nilV, .int .i64 0, .val nilV, .val nilV, .val nilV, .int .i64 0, .int .i64 0, .int .i64 0])), (3, some (.box [.int .i64 (a : Int), .int .i64 (K : Int), .bool true, .sl 3 (flE (dkOf shardN ts)), .int .i64 ((svOf (a : Int) (K : Int) ts).ep : Int), .ref 4, .ref 5, .ref 6, .int .i64 ((svOf (a : Int) (K : Int) ts).re : Int), .int .i64 ((svOf (a : Int) (K : Int) ts).rt : Int), .int .i64 ((svOf (a : Int) (K : Int) ts).rk : Int)])), (4, some (.row 1 (vwE (svOf (a : Int) (K : Int) ts).vs))), (5, some (.row 1 (ntE (svOf (a : Int) (K : Int) ts).tk))), (6, some (.row 3 (chE (svOf (a : Int) (K : Int) ts).al)))], 7⟩ := by
 cases hr with
 | take kx hx kd hd hu hid ku =>
   rename_i d _ _ u
   rw [← (z5i g u hu).sv] at hQ0
   rcases (show d = 0 ∨ d = 1 ∨ d = 2 by omega) with rfl | rfl | rfl
   ·exact rlT0 Q c a K ts tr k i h hK ha hk htr g kx hx.1 kd hu ku hQ0
   ·exact rlT1 Q c a K ts tr k i h hK ha hk htr g kx hx.1 kd hu ku hQ0
   ·exact rlT2 Q c a K ts tr k i h hK ha hk htr g kx hx.1 kd hu ku hQ0
 | prep kx hx kd hd hb kb hz =>
   rename_i z
   rw [← (z1u g (by omega) hz).sv] at hQ0
   have hc : z ≠ .com := fun e => by
    rw [← hz] at e
    unfold z3w at e
    split at e
    ·rw [if_pos rfl] at e
     split at e
     ·split at e
      ·cases e
      ·split at e <;> cases e
     ·cases e
    ·cases e
   rcases hd with rfl | rfl
   ·exact rlP3 Q c a K ts tr k i h hK ha hk htr g kx hx.1 kd hb kb hz hc hQ0
   ·exact rlP4 Q c a K ts tr k i h hK ha hk htr g kx hx.1 kd hb kb hz hc hQ0
 | com kx hx kd hd hz =>
   rename_i z
   rw [← (z1u g (by omega) hz).sv] at hQ0
   subst hd
   by_cases hc : z = .com
   ·subst hc; exact rlC5c Q c a K ts tr k i h hK ha hk htr g kx hx.1 kd hz hQ0
   ·exact rlC5 Q c a K ts tr k i h hK ha hk htr g kx hx.1 kd hz hc hQ0
 | abo kx hx kd hd hz =>
   rename_i z
   rw [← (z1u g (by omega) hz).sv] at hQ0
   subst hd
   have hc : z ≠ .com := fun e => by
    rw [← hz] at e
    unfold z3w at e
    split at e
    ·rw [if_neg (by decide), if_pos rfl] at e
     split at e <;> cases e
    ·cases e
   exact rlA6 Q c a K ts tr k i h hK ha hk htr g kx hx.1 kd hz hc hQ0
theorem z6l (c : Bs) (i : Nat) (h : Int) (hc : (c.length : Int) ≤ 1048576) (hi : i ≤ c.length) : ∃ (a K : Nat) (ts : List Bs) (i' : Nat) (h' : Int), (K ≤ 2 ∧ a < 2 ^ K ∧ LogOk (a : Int) (K : Int) 22 ts (svOf (a : Int) (K : Int) ts) ∧ (svOf (a : Int) (K : Int) ts).rt ≤ 30 ∧ IdLe (svOf (a : Int) (K : Int) ts)) ∧ i' ≤ c.length ∧
 CT Tryz.prog 31 [curE c i h] [.ptr 1 0 0] (.agg (svE (a : Int) (K : Int) true (dkOf shardN ts) (vwE (svOf (a : Int) (K : Int) ts).vs) (svOf (a : Int) (K : Int) ts))) [curE c i' h'] := by
 obtain ⟨K, i1, h1, hK3, hi1, k1⟩ := z24 c i h 3 hc hi (by decide)
 have hK : K ≤ 2 := by omega
 have hp := zes hK
 obtain ⟨a, i2, h2, ha, hi2, k2⟩ := z24 c i1 h1 (2 ^ K) hc hi1 (Nat.pow_pos (by decide))
 obtain ⟨tF, iF, hF, hs, gF, hiF⟩ := sr_all c a K hc 22 0 [] 0 i2 h2 rfl hi2 ⟨⟨Nat.le_refl _, fun t ht => by cases ht⟩, rfl⟩ (Nat.le_refl _) (Nat.zero_le _) (fun x hx => by cases hx)
 refine ⟨a, K, tF, iF, hF, ⟨hK, ha, gF⟩, hiF, ?_⟩
 have g0 : LogOk (a : Int) (K : Int) 0 [] (svOf (a : Int) (K : Int) []) := ⟨⟨Nat.le_refl _, fun t ht => by cases ht⟩, rfl⟩
 have eSh : IntKind.i64.wrap (1 * 2 ^ ((K : Nat) : Int).toNat) = (((2 ^ K : Nat)) : Int) := by rw [shl1 hK]; simp
 have eU : IntKind.u64.wrap ((K : Nat) : Int) = ((K : Nat) : Int) := by
  show ((K : Nat) : Int) % 18446744073709551616 = _
  omega
 have b0 : (0 : Int) ≤ ((K : Nat) : Int) := by omega
 have b1 : ((K : Nat) : Int) ≤ ((IntKind.i64.bits : Nat) : Int) := by show ((K : Nat) : Int) ≤ 64; omega
 have c0 := z83 (a : Int) (K : Int)
 clear hp hiF gF hi hi1 hi2 hK3
 unfold svE
 generalize (2 ^ K : Nat) = pk at eSh k2
 refine z01 z0i 2 rfl Tryz.func31 rfl rfl rfl ?_
 conv => arg 6; whnf
 repeat ((try conv => whnf); first | (with_reducible first | refine z0f (fun Qs hN hE hR => ?_) | refine z0d ?_ | refine z04 (fun Qb kN kE kX kR => ?_) | refine z06 ?_ | refine z07 ?_ | refine z0e ?_ | refine z08 ?_ | refine z09 ?_ | (show W _ _ _ (.cond _ _ _) _ _; refine z05 rfl ?_) | (refine hN _ ?_; try clear hN hE hR Qs; (try (conv => arg 6; dsimp only [ovl, List.set, List.map, ren0]))) | ((first | refine hE _ _ ?_ | refine hR _ ?_); try clear hN hE hR Qs) | ((first | refine kN _ ?_ | refine kE _ ?_ | refine kX _ _ rfl ?_ | refine kR _ ?_); try clear kN kE kX kR Qb)) | (refine ccB ([1]) (k1) ?_) | (refine Exists.intro _ (And.intro eU.symm ?_)) | (refine And.intro b0 (And.intro b1 (Exists.intro _ (And.intro eSh.symm ?_)))) | (refine ccB ([1]) (k2) ?_) | (refine ccA ([]) (c0) ?_) | (refine And.intro (by kernel_rfl) ?_) | (refine stpQ ?_))
 refine z3V (Nat × List Bs × Nat × Nat × Int) (fun x => ⟨[(0, .ptr 1 0 0), (2, .ptr 2 0 0), (4, .int .i64 ((a : Nat) : Int)), (5, .ptr 3 0 0), (6, .int .i64 ((x.2.2.1 : Nat) : Int)), (7, .int .i64 ((x.1 : Nat) : Int))], [(1, some (curE c x.2.2.2.1 x.2.2.2.2)), (2, some (.box [.int .i64 0, .int .i64 0, .bool false, .val nilV, .int .i64 0, .val nilV, .val nilV, .val nilV, .int .i64 0, .int .i64 0, .int .i64 0])), (3, some (.box [.int .i64 (a : Int), .int .i64 (K : Int), .bool true, .sl 3 (flE (dkOf shardN x.2.1)), .int .i64 ((svOf (a : Int) (K : Int) x.2.1).ep : Int), .ref 4, .ref 5, .ref 6, .int .i64 ((svOf (a : Int) (K : Int) x.2.1).re : Int), .int .i64 ((svOf (a : Int) (K : Int) x.2.1).rt : Int), .int .i64 ((svOf (a : Int) (K : Int) x.2.1).rk : Int)])), (4, some (.row 1 (vwE (svOf (a : Int) (K : Int) x.2.1).vs))), (5, some (.row 1 (ntE (svOf (a : Int) (K : Int) x.2.1).tk))), (6, some (.row 3 (chE (svOf (a : Int) (K : Int) x.2.1).al)))], 7⟩) (fun x => LsR c a K x.1 x.2.1 x.2.2.1 x.2.2.2.1 x.2.2.2.2 tF iF hF ∧ LogOk (a : Int) (K : Int) x.1 x.2.1 (svOf (a : Int) (K : Int) x.2.1) ∧ x.1 ≤ 22 ∧ x.2.2.1 ≤ x.1 ∧ (svOf (a : Int) (K : Int) x.2.1).rt ≤ x.2.2.1 + 1) (fun x => 22 - x.1) (0, [], 0, i2, h2) ⟨hs, g0, Nat.zero_le _, Nat.le_refl _, Nat.zero_le _⟩ ?_ ?_
 ·(refine z02 (by rfl) ?_ ?_) <;> (repeat' (first | (exact eqA) | (refine And.intro ?_ ?_) | ((fail_if_success (with_reducible (show _ = _))); (show _ = _)))) <;> first | rfl | decide
 ·intro Q1 hQ1 x hx
  obtain ⟨k, ts, tr, j, hh⟩ := x
  obtain ⟨hs, g, hk, ht, hrt⟩ := hx
  dsimp only at hs g hk ht hrt ⊢
  cases hs with
  | stop kx hx =>
    rename_i x
    have f1 : ¬ ((k : Nat) : Int) < ((x : Nat) : Int) := by omega
    repeat ((try conv => whnf); first | (with_reducible first | refine z0f (fun Qs hN hE hR => ?_) | refine z0d ?_ | refine z04 (fun Qb kN kE kX kR => ?_) | refine z06 ?_ | refine z07 ?_ | refine z0e ?_ | refine z08 ?_ | refine z09 ?_ | (show W _ _ _ (.cond _ _ _) _ _; refine z05 rfl ?_) | (refine hN _ ?_; try clear hN hE hR Qs; (try (conv => arg 6; dsimp only [ovl, List.set, List.map, ren0]))) | ((first | refine hE _ _ ?_ | refine hR _ ?_); try clear hN hE hR Qs) | ((first | refine kN _ ?_ | refine kE _ ?_ | refine kX _ _ rfl ?_ | refine kR _ ?_); try clear kN kE kX kR Qb)) | (refine ccB ([1]) (kx) ?_) | (refine z0c f1 ?_) | (refine And.intro (by kernel_rfl) ?_) | (refine stpQ ?_))
    refine hQ1 _ _ ?_
    clear hQ1 Q1
    repeat ((try conv => whnf); first | (with_reducible first | refine z0f (fun Qs hN hE hR => ?_) | refine z0d ?_ | refine z04 (fun Qb kN kE kX kR => ?_) | refine z06 ?_ | refine z07 ?_ | refine z0e ?_ | refine z08 ?_ | refine z09 ?_ | (show W _ _ _ (.cond _ _ _) _ _; refine z05 rfl ?_) | (refine hN _ ?_; try clear hN hE hR Qs; (try (conv => arg 6; dsimp only [ovl, List.set, List.map, ren0]))) | ((first | refine hE _ _ ?_ | refine hR _ ?_); try clear hN hE hR Qs) | ((first | refine kN _ ?_ | refine kE _ ?_ | refine kX _ _ rfl ?_ | refine kR _ ?_); try clear kN kE kX kR Qb)) | (refine And.intro (by kernel_rfl) ?_) | (refine stpQ ?_))
    (refine z00 (by rfl) ?_ ?_ (by rfl)) <;> (repeat' (first | (exact eqA) | (refine And.intro ?_ ?_) | ((fail_if_success (with_reducible (show _ = _))); (show _ = _)))) <;> rfl
  | step hr hs' =>
    rename_i ts' tr' j' hh'
    have hg := zgh hr g (by omega) ht hrt
    have hk22 : k < 22 := by
     exact ls_lt hr
    exact rd_w _ c a K hK ha hr g (by omega) (by omega) (fun S1 hS1 => ⟨(k + 1, ts', tr', j', hh'), ⟨hs', hg.1, hk22, hg.2.1, hg.2.2⟩, (by show 22 - (k + 1) < 22 - k; omega), hS1⟩)
theorem z9j (c : Bs) (hc : (c.length : Int) ≤ 1048576) : ∃ (a K : Nat) (ts : List Bs), (K ≤ 2 ∧ a < 2 ^ K ∧ LogOk (a : Int) (K : Int) 22 ts (svOf (a : Int) (K : Int) ts) ∧ (svOf (a : Int) (K : Int) ts).rt ≤ 30 ∧ IdLe (svOf (a : Int) (K : Int) ts)) ∧
 CT Tryz.prog 6 [] [.sl 1 (z0k c)] (.agg (svE (a : Int) (K : Int) true (dkOf shardN ts) (vwE (svOf (a : Int) (K : Int) ts).vs) (svOf (a : Int) (K : Int) ts))) [] := by
 obtain ⟨h, c1⟩ := z7F c hc
 obtain ⟨a, K, ts, i', h', hl, _, c2⟩ := z6l c 0 h hc (by omega)
 refine ⟨a, K, ts, hl, ?_⟩
 unfold svE at *
 generalize svOf (a : Int) (K : Int) ts = s at *
 generalize dkOf shardN ts = d0 at *
 refine z01 z0i 1 rfl Tryz.func6 rfl rfl rfl ?_
 conv => arg 6; whnf
 repeat ((try conv => whnf); first | (with_reducible first | refine z0f (fun Qs hN hE hR => ?_) | refine z0d ?_ | refine z04 (fun Qb kN kE kX kR => ?_) | refine z06 ?_ | refine z07 ?_ | refine z0e ?_ | refine z08 ?_ | refine z09 ?_ | (show W _ _ _ (.cond _ _ _) _ _; refine z05 rfl ?_) | (refine hN _ ?_; try clear hN hE hR Qs; (try (conv => arg 6; dsimp only [ovl, List.set, List.map, ren0]))) | ((first | refine hE _ _ ?_ | refine hR _ ?_); try clear hN hE hR Qs) | ((first | refine kN _ ?_ | refine kE _ ?_ | refine kX _ _ rfl ?_ | refine kR _ ?_); try clear kN kE kX kR Qb)) | (refine ccA ([]) (c1) ?_) | (refine ccB ([_]) (c2) ?_) | (refine And.intro (by kernel_rfl) ?_) | (refine stpQ ?_))
 (refine z00 (by rfl) ?_ ?_ (by rfl)) <;> (repeat' (first | (exact eqA) | (refine And.intro ?_ ?_) | ((fail_if_success (with_reducible (show _ = _))); (show _ = _)))) <;> first | rfl | decide
end
end Go.Proofs.YtfjbinbpgdiafaaGreatDoor
namespace Go.Proofs.YtfjbinbpgdiafaaGreatDoor
set_option linter.unusedVariables false
set_option linter.unusedSimpArgs false
set_option linter.unusedSectionVars false
open Go.RowKit Pl
section
attribute [local irreducible] z0r z0s z0z AnsP LeP W CvE
end
end Go.Proofs.YtfjbinbpgdiafaaGreatDoor
