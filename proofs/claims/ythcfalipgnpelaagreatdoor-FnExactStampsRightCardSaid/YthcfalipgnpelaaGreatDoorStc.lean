/- Functions by content: the stamps of a world are right. -/
import Derived.Test.YthcfalipgnpelaaGreatDoorVd
import Derived.Test.YthcfalipgnpelaaGreatDoorStb
namespace Go.Proofs.YthcfalipgnpelaaGreatDoor
set_option maxRecDepth 100000
set_option maxHeartbeats 8000000
set_option linter.unusedVariables false
set_option linter.unusedSimpArgs false
set_option linter.unusedSectionVars false
open Go.RowKit Pl
structure Gv where
 ho : Int
 ep : Int
 bi : Int
 a : Int
 op : List Bs
 sh : List Bs
 si : List Bs
def gvE (g : Gv) : List T := [.int .i64 g.ho, .int .i64 g.ep, .int .i64 g.bi, .int .i64 g.a, .sl 1 (strE g.op), .sl 1 (strE g.sh), .sl 1 (strE g.si)]
def zj0 (g : Gv) : Prop := g.op.length ≤ 1048576 ∧ g.sh.length ≤ 1048576 ∧ g.si.length ≤ 1048576
def gvL (l : List Gv) : List (List T) := l.map gvE
theorem zdn (l : List Gv) : (gvL l).length = l.length := by simp [gvL]
theorem zj1 {l : List Gv} {k : Nat} (h : k < l.length) : (gvL l)[k]? = some (gvE l[k]) := by simp [gvL, List.getElem?_eq_getElem h]
def AuAt (z : List (List T)) (pn : Nat → List Sa) (k : Nat) : Prop := ∃ (n0 : Int) (b1 : Bool) (z2 z3 z5 : List (List T)),
 z[k]? = some [.int .i64 n0, .bool b1, .sl 3 z2, .sl 1 z3, .sl 8 (saL (pn k)), .sl 16 z5] ∧ (pn k).length ≤ 1048576 ∧ ∀ x ∈ pn k, z6C x
def pinB (g : Gv) (root : Bs) (x : Sa) : Bool := decide (x.ho = g.ho) && (decide (x.ep = g.ep) && stA root x.ho x.ep x.ro x.pr g.a g.op g.sh g.si)
def givB (na : Nat) (roots : List Bs) (pn : Nat → List Sa) (g : Gv) : Bool := inB g.bi 0 ((na : Int) - 1) && (decide (g.bi < (roots.length : Int)) && (pn g.bi.toNat).any (pinB g (pAt roots g.bi.toNat)))
theorem zeK {α : Type} {p : α → Bool} {l : List α} {k : Nat} (h : k < l.length) : (l.take (k + 1)).any p = ((l.take k).any p || p l[k]) := by
 rw [List.take_succ_eq_append_getElem h, List.any_append]; simp
theorem z9e {α : Type} {p : α → Bool} {l : List α} {k : Nat} (h : (l.take k).any p = true) : l.any p = true := by
 rw [List.any_eq_true] at h ⊢
 obtain ⟨x, hx, hp⟩ := h
 exact ⟨x, List.mem_of_mem_take hx, hp⟩
section
attribute [local irreducible] z0o z0p z0z AnsP LeP
theorem zce (z0 z1 z2 z3 z4 z5 : List (List T)) (roots : List Bs) (hr : roots.length ≤ 1048576) (pn : Nat → List Sa) (g : Gv) (hz : z1.length ≤ 1048576) (hg : zj0 g) (h : ∀ k, k < z1.length → AuAt z1 pn k) :
 CT Tryz.prog 40 [] [.agg [.sl 14 z0, .sl 6 z1, .sl 2 z2, .sl 7 z3, .sl 1 z4, .sl 1 z5], .sl 1 (strE roots), .agg (gvE g)] (.bool (givB z1.length roots pn g)) [] := by
 have hrl := z05 roots
 obtain ⟨gh, ge, gb, ga, gop, gsh, gsi⟩ := g
 obtain ⟨f1, f2, f3⟩ := hg
 simp only at f1 f2 f3
 have c1 := c_in gb 0 ((z1.length : Int) - 1)
 have e1 : IntKind.i64.wrap ((z1.length : Int) - 1) = (z1.length : Int) - 1 := by rw [z08 (by omega) (by omega)]
 unfold givB gvE
 simp only
 by_cases hb : 0 ≤ gb ∧ gb ≤ (z1.length : Int) - 1
 ·rw [z0R hb] at c1 ⊢
  rw [Bool.true_and]
  obtain ⟨b, rfl⟩ : ∃ n : Nat, gb = n := ⟨gb.toNat, by omega⟩
  simp only [Int.toNat_natCast]
  by_cases hb2 : (b : Int) < (roots.length : Int)
  ·rw [decide_eq_true hb2, Bool.true_and]
   have hb3 : ¬ (b : Int) ≥ (roots.length : Int) := by omega
   obtain ⟨n0, u1, y2, y3, y5, gA, hl, hfit⟩ := h b (by omega)
   have gR := z0j (show b < roots.length by omega)
   clear h
   generalize pn b = ps at gA hl hfit ⊢
   generalize pAt roots b = root at gR ⊢
   have hsl := z4o ps
   refine z01 z03 1 rfl Tryz.func40 rfl rfl rfl ?_
   repeat ((try conv => whnf); first | (refine Exists.intro _ (And.intro e1.symm ?_)) | (refine ccA ([]) (c1) ?_) | (refine Exists.intro roots.length (And.intro hrl ?_)) | (refine i_at gA ?_) | (refine And.intro (by kernel_rfl) ?_) | (refine stpQ ?_))
   refine z0K Nat (fun k => ⟨[(1, .sl 1 (strE roots)), (5, .ptr 1 0 0), (7, .int .i64 (b : Int)), (31, .sl 8 (saL ps)), (32, .int .i64 ((saL ps).length : Int)), (33, .int .i64 (k : Int))], [(1, some (.box [.int .i64 gh, .int .i64 ge, .int .i64 (b : Int), .int .i64 ga, .sl 1 (strE gop), .sl 1 (strE gsh), .sl 1 (strE gsi)]))], 2⟩)
    (fun k => k ≤ ps.length ∧ (ps.take k).any (pinB ⟨gh, ge, (b : Int), ga, gop, gsh, gsi⟩ root) = false) (fun k => ps.length - k) 0 ⟨by omega, by simp⟩ ?_ ?_
   ·(refine z02 (by rfl) ?_ ?_) <;> repeat' (first | (exact eqA) | (refine shE ?_) | (refine And.intro ?_ ?_))
   ·intro Q1 hQ1 k hk
    have hk1 := hk.1
    have hk2 := hk.2
    clear hk
    by_cases hlt : k < ps.length
    ·have hlt2 : (k : Int) < ((saL ps).length : Int) := by omega
     have gS := z81 hlt
     have hnx := zeK (p := pinB ⟨gh, ge, (b : Int), ga, gop, gsh, gsi⟩ root) hlt
     rw [hk2, Bool.false_or] at hnx
     have hall : (ps.take (k + 1)).any (pinB ⟨gh, ge, (b : Int), ga, gop, gsh, gsi⟩ root) = true → ps.any (pinB ⟨gh, ge, (b : Int), ga, gop, gsh, gsi⟩ root) = true := z9e
     rw [hnx] at hall
     have hP : pinB ⟨gh, ge, (b : Int), ga, gop, gsh, gsi⟩ root ps[k] = (decide (ps[k].ho = gh) && (decide (ps[k].ep = ge) && stA root ps[k].ho ps[k].ep ps[k].ro ps[k].pr ga gop gsh gsi)) := rfl
     have c2 := zg6 root ps[k].ho ps[k].ep ps[k].ro ps[k].pr ga gop gsh gsi f1 f2 f3
     clear hk2
     generalize pinB ⟨gh, ge, (b : Int), ga, gop, gsh, gsi⟩ root ps[k] = B at hnx hall hP
     generalize ps[k] = x at gS hP c2
     obtain ⟨xh, xe, xr, xp, xa, xo, xs, xi⟩ := x
     unfold saE z1B z1r at gS
     simp only at gS hP c2
     generalize stA root xh xe xr xp ga gop gsh gsi = S at c2 hP
     by_cases q1 : xh = gh
     ·by_cases q2 : xe = ge
      ·rw [decide_eq_true q1, decide_eq_true q2, Bool.true_and, Bool.true_and] at hP
       cases S with
       | true =>
         have hA := hall hP
         repeat ((try conv => whnf); first | (refine i_at gS ?_) | (refine i_at gR ?_) | (refine ccA ([]) (c2) ?_) | (refine And.intro (by kernel_rfl) ?_) | (refine stpQ ?_))
         refine hQ1 _ _ ?_
         (try conv => whnf)
         rw [hA]
         (refine z00 (by rfl) ?_ ?_ (by rfl)) <;> repeat' (first | (exact eqA) | (refine shE ?_) | (refine And.intro ?_ ?_))
       | false =>
         repeat ((try conv => whnf); first | (refine i_at gS ?_) | (refine i_at gR ?_) | (refine ccA ([]) (c2) ?_) | (refine And.intro (by kernel_rfl) ?_) | (refine stpQ ?_))
         refine ⟨k + 1, ⟨by omega, by rw [hnx]; exact hP⟩, by omega, ?_⟩
         (refine z02 (by rfl) ?_ ?_) <;> repeat' (first | (exact eqA) | (refine shE ?_) | (refine And.intro ?_ ?_))
      ·rw [decide_eq_false q2, Bool.false_and, Bool.and_false] at hP
       repeat ((try conv => whnf); first | (refine i_at gS ?_) | (refine i_at gR ?_) | (refine ccA ([]) (c2) ?_) | (refine And.intro (by kernel_rfl) ?_) | (refine stpQ ?_))
       refine ⟨k + 1, ⟨by omega, by rw [hnx]; exact hP⟩, by omega, ?_⟩
       (refine z02 (by rfl) ?_ ?_) <;> repeat' (first | (exact eqA) | (refine shE ?_) | (refine And.intro ?_ ?_))
     ·rw [decide_eq_false q1, Bool.false_and] at hP
      repeat ((try conv => whnf); first | (refine i_at gS ?_) | (refine i_at gR ?_) | (refine ccA ([]) (c2) ?_) | (refine And.intro (by kernel_rfl) ?_) | (refine stpQ ?_))
      refine ⟨k + 1, ⟨by omega, by rw [hnx]; exact hP⟩, by omega, ?_⟩
      (refine z02 (by rfl) ?_ ?_) <;> repeat' (first | (exact eqA) | (refine shE ?_) | (refine And.intro ?_ ?_))
    ·have hke : k = ps.length := by omega
     subst hke
     rw [List.take_length] at hk2
     repeat ((try conv => whnf); first | (refine stpQ ?_))
     refine hQ1 _ _ ?_
     repeat ((try conv => whnf); first | (refine stpQ ?_))
     rw [hk2]
     (refine z00 (by rfl) ?_ ?_ (by rfl)) <;> repeat' (first | (exact eqA) | (refine shE ?_) | (refine And.intro ?_ ?_))
  ·rw [decide_eq_false hb2, Bool.false_and]
   have hb3 : (b : Int) ≥ (roots.length : Int) := by omega
   refine z01 z03 1 rfl Tryz.func40 rfl rfl rfl ?_
   repeat ((try conv => whnf); first | (refine Exists.intro _ (And.intro e1.symm ?_)) | (refine ccA ([]) (c1) ?_) | (refine Exists.intro roots.length (And.intro hrl ?_)) | (refine And.intro (by kernel_rfl) ?_) | (refine stpQ ?_))
   (refine z00 (by rfl) ?_ ?_ (by rfl)) <;> repeat' (first | (exact eqA) | (refine shE ?_) | (refine And.intro ?_ ?_))
 ·rw [z21 hb] at c1 ⊢
  rw [Bool.false_and]
  refine z01 z03 1 rfl Tryz.func40 rfl rfl rfl ?_
  repeat ((try conv => whnf); first | (refine Exists.intro _ (And.intro e1.symm ?_)) | (refine ccA ([]) (c1) ?_) | (refine And.intro (by kernel_rfl) ?_) | (refine stpQ ?_))
  (refine z00 (by rfl) ?_ ?_ (by rfl)) <;> repeat' (first | (exact eqA) | (refine shE ?_) | (refine And.intro ?_ ?_))
def stsB (na : Nat) (roots : List Bs) (pn : Nat → List Sa) (gl : List Gv) : Bool := gl.all (givB na roots pn)
theorem zl6 {α : Type} {p : α → Bool} {l : List α} {k : Nat} (h : k < l.length) (hp : p l[k] = false) : l.all p = false := by
 rw [List.all_eq_false]
 exact ⟨_, List.getElem_mem h, by simp [hp]⟩
theorem zj2 {α : Type} {p : α → Bool} {l : List α} (h : ∀ (k : Nat) (hk : k < l.length), p l[k] = true) : l.all p = true := by
 rw [List.all_eq_true]
 intro x hx
 obtain ⟨k, hk, rfl⟩ := List.getElem_of_mem hx
 exact h k hk
theorem zam (z0 z1 z2 z4 z5 : List (List T)) (gl : List Gv) (pf : Nat → List Bs) (pn : Nat → List Sa) (h0 : z0.length ≤ 1048576) (h1 : z1.length ≤ 1048576) (h3 : gl.length ≤ 1048576)
 (hH : ∀ k, k < z0.length → PoAt z0 pf k) (hA : ∀ k, k < z1.length → AuAt z1 pn k) (hG : ∀ x ∈ gl, zj0 x) :
 CT Tryz.prog 10 [] [.agg [.sl 14 z0, .sl 6 z1, .sl 2 z2, .sl 7 (gvL gl), .sl 1 z4, .sl 1 z5]] (.bool (stsB z1.length (z1W pf z0.length) pn gl)) [] := by
 have c1 := ziQ z0 z1 z2 (gvL gl) z4 z5 pf h0 hH
 have hrl : (z1W pf z0.length).length ≤ 1048576 := by rw [z4A]; exact h0
 generalize z1W pf z0.length = R at c1 hrl ⊢
 have hgl := zdn gl
 refine z01 z03 1 rfl Tryz.func10 rfl rfl rfl ?_
 repeat ((try conv => whnf); first | (refine ccA ([]) (c1) ?_) | (refine stpQ ?_))
 refine z0K Nat (fun k => ⟨[(1, .ptr 1 0 0), (3, .sl 1 (strE R)), (9, .sl 7 (gvL gl)), (10, .int .i64 ((gvL gl).length : Int)), (11, .int .i64 (k : Int))], [(1, some (.box [.sl 14 z0, .sl 6 z1, .sl 2 z2, .sl 7 (gvL gl), .sl 1 z4, .sl 1 z5]))], 2⟩)
  (fun k => k ≤ gl.length ∧ ∀ (j : Nat) (h : j < gl.length), j < k → givB z1.length R pn gl[j] = true) (fun k => gl.length - k) 0 ⟨by omega, fun j h hj => by omega⟩ ?_ ?_
 ·(refine z02 (by rfl) ?_ ?_) <;> repeat' (first | (exact eqA) | (refine shE ?_) | (refine And.intro ?_ ?_))
 ·intro Q1 hQ1 k hk
  have hk1 := hk.1
  have hk2 := hk.2
  clear hk
  by_cases hlt : k < gl.length
  ·have hlt2 : (k : Int) < ((gvL gl).length : Int) := by omega
   have gG := zj1 hlt
   have c2 := zce z0 z1 z2 (gvL gl) z4 z5 R hrl pn gl[k] h1 (hG _ (List.getElem_mem hlt)) hA
   have hfin : givB z1.length R pn gl[k] = false → stsB z1.length R pn gl = false := fun h => zl6 hlt h
   have hgo : givB z1.length R pn gl[k] = true → ∀ (j : Nat) (h : j < gl.length), j < k + 1 → givB z1.length R pn gl[j] = true := fun h j hj hjk => by
    rcases Nat.lt_or_ge j k with w | w
    ·exact hk2 j hj w
    ·have : j = k := by omega
     subst this
     exact h
   clear hk2
   generalize givB z1.length R pn gl[k] = B at c2 hfin hgo
   generalize gl[k] = x at gG c2
   obtain ⟨gh, ge, gb, ga, gop, gsh, gsi⟩ := x
   unfold gvE at gG c2
   simp only at gG c2
   cases B with
   | true =>
     repeat ((try conv => whnf); first | (refine i_at gG ?_) | (refine ccA ([]) (c2) ?_) | (refine And.intro (by kernel_rfl) ?_) | (refine stpQ ?_))
     refine ⟨k + 1, ⟨by omega, hgo rfl⟩, by omega, ?_⟩
     (refine z02 (by rfl) ?_ ?_) <;> repeat' (first | (exact eqA) | (refine shE ?_) | (refine And.intro ?_ ?_))
   | false =>
     repeat ((try conv => whnf); first | (refine i_at gG ?_) | (refine ccA ([]) (c2) ?_) | (refine And.intro (by kernel_rfl) ?_) | (refine stpQ ?_))
     refine hQ1 _ _ ?_
     (try conv => whnf)
     rw [hfin rfl]
     (refine z00 (by rfl) ?_ ?_ (by rfl)) <;> repeat' (first | (exact eqA) | (refine shE ?_) | (refine And.intro ?_ ?_))
  ·have hke : k = gl.length := by omega
   subst hke
   have hA2 : stsB z1.length R pn gl = true := zj2 fun j hj => hk2 j hj hj
   repeat ((try conv => whnf); first | (refine stpQ ?_))
   refine hQ1 _ _ ?_
   repeat ((try conv => whnf); first | (refine stpQ ?_))
   rw [hA2]
   (refine z00 (by rfl) ?_ ?_ (by rfl)) <;> repeat' (first | (exact eqA) | (refine shE ?_) | (refine And.intro ?_ ?_))
theorem z8A (z0 z1 z2 z4 z5 : List (List T)) (gl : List Gv) (pf : Nat → List Bs) (pn : Nat → List Sa) (h0 : z0.length ≤ 1048576) (h1 : z1.length ≤ 1048576) (h3 : gl.length ≤ 1048576)
 (hH : ∀ k, k < z0.length → PoAt z0 pf k) (hA : ∀ k, k < z1.length → AuAt z1 pn k) (hG : ∀ x ∈ gl, zj0 x) :
 CT Tryz.prog 8 [] [.agg [.sl 14 z0, .sl 6 z1, .sl 2 z2, .sl 7 (gvL gl), .sl 1 z4, .sl 1 z5]] (.bool (stsB z1.length (z1W pf z0.length) pn gl)) [] := by
 have c1 := zg5 z0 z1 z2 (gvL gl) z4 z5 pf h0 hH
 have hrl : (z1W pf z0.length).length ≤ 1048576 := by rw [z4A]; exact h0
 generalize z1W pf z0.length = R at c1 hrl ⊢
 have hRl := z05 R
 have hgl := zdn gl
 have e1 : IntKind.i64.wrap ((z1.length : Int) - 1) = (z1.length : Int) - 1 := by rw [z08 (by omega) (by omega)]
 refine z01 z03 1 rfl Tryz.func8 rfl rfl rfl ?_
 repeat ((try conv => whnf); first | (refine ccA ([]) (c1) ?_) | (refine stpQ ?_))
 refine z0K Nat (fun k => ⟨[(1, .ptr 1 0 0), (3, .sl 1 (strE R)), (4, .int .i64 (k : Int))], [(1, some (.box [.sl 14 z0, .sl 6 z1, .sl 2 z2, .sl 7 (gvL gl), .sl 1 z4, .sl 1 z5]))], 2⟩)
  (fun k => k ≤ gl.length ∧ ∀ (j : Nat) (h : j < gl.length), j < k → givB z1.length R pn gl[j] = true) (fun k => gl.length - k) 0 ⟨by omega, fun j h hj => by omega⟩ ?_ ?_
 ·(refine z02 (by rfl) ?_ ?_) <;> repeat' (first | (exact eqA) | (refine shE ?_) | (refine And.intro ?_ ?_))
 ·intro Q1 hQ1 k hk
  have hk1 := hk.1
  have hk2 := hk.2
  clear hk
  by_cases hlt : k < gl.length
  ·have hlt2 : (k : Int) < (gl.length : Int) := by omega
   have gG := zj1 hlt
   have hfit := hG _ (List.getElem_mem hlt)
   have hfin : givB z1.length R pn gl[k] = false → stsB z1.length R pn gl = false := fun h => zl6 hlt h
   have hgo : givB z1.length R pn gl[k] = true → ∀ (j : Nat) (h : j < gl.length), j < k + 1 → givB z1.length R pn gl[j] = true := fun h j hj hjk => by
    rcases Nat.lt_or_ge j k with w | w
    ·exact hk2 j hj w
    ·have : j = k := by omega
     subst this
     exact h
   have hD : givB z1.length R pn gl[k] = (inB gl[k].bi 0 ((z1.length : Int) - 1) && (decide (gl[k].bi < (R.length : Int)) && (pn gl[k].bi.toNat).any (pinB gl[k] (pAt R gl[k].bi.toNat)))) := rfl
   clear hk2
   generalize givB z1.length R pn gl[k] = B at hfin hgo hD
   generalize gl[k] = x at gG hD hfit
   obtain ⟨gh, ge, gb, ga, gop, gsh, gsi⟩ := x
   obtain ⟨f1, f2, f3⟩ := hfit
   unfold gvE at gG
   simp only at gG hD f1 f2 f3
   have c3 := z1f gb 0 ((z1.length : Int) - 1)
   by_cases hb : 0 ≤ gb ∧ gb ≤ (z1.length : Int) - 1
   ·rw [z0R hb] at c3 hD
    rw [Bool.true_and] at hD
    obtain ⟨b, rfl⟩ : ∃ n : Nat, gb = n := ⟨gb.toNat, by omega⟩
    simp only [Int.toNat_natCast] at hD
    by_cases hb2 : (b : Int) < (R.length : Int)
    ·rw [decide_eq_true hb2, Bool.true_and] at hD
     have hb3 : ¬ (b : Int) ≥ (R.length : Int) := by omega
     obtain ⟨n0, u1, y2, y3, y5, gA, hl, hfit⟩ := hA b (by omega)
     have gR := z0j (show b < R.length by omega)
     generalize pn b = ps at gA hl hfit hD
     generalize pAt R b = root at gR hD
     have hsl := z4o ps
     repeat ((try conv => whnf); first | (refine Exists.intro gl.length (And.intro hgl ?_)) | (refine i_at gG ?_) | (refine Exists.intro _ (And.intro e1.symm ?_)) | (refine ccA ([]) (c3) ?_) | (refine Exists.intro R.length (And.intro hRl ?_)) | (refine i_at gA ?_) | (refine And.intro (by kernel_rfl) ?_) | (refine stpQ ?_))
     refine z0K (Nat × Bool) (fun kf => ⟨[(1, .ptr 1 0 0), (3, .sl 1 (strE R)), (4, .int .i64 (k : Int)), (5, .ptr 2 0 0), (6, .bool kf.2), (7, .sl 8 (saL ps)), (8, .int .i64 (kf.1 : Int))], [(1, some (.box [.sl 14 z0, .sl 6 z1, .sl 2 z2, .sl 7 (gvL gl), .sl 1 z4, .sl 1 z5])), (2, some (.box [.int .i64 gh, .int .i64 ge, .int .i64 (b : Int), .int .i64 ga, .sl 1 (strE gop), .sl 1 (strE gsh), .sl 1 (strE gsi)]))], 3⟩)
      (fun kf => kf.1 ≤ ps.length ∧ kf.2 = (ps.take kf.1).any (pinB ⟨gh, ge, (b : Int), ga, gop, gsh, gsi⟩ root)) (fun kf => ps.length - kf.1) (0, false) ⟨by simp, by simp⟩ ?_ ?_
     ·(refine z02 (by rfl) ?_ ?_) <;> repeat' (first | (exact eqA) | (refine shE ?_) | (refine And.intro ?_ ?_))
     ·intro Q2 hQ2 kf hkf
      obtain ⟨j, f⟩ := kf
      have hj1 : j ≤ ps.length := hkf.1
      have hj2 : f = (ps.take j).any (pinB ⟨gh, ge, (b : Int), ga, gop, gsh, gsi⟩ root) := hkf.2
      clear hkf
      by_cases hjl : j < ps.length
      ·have hjl2 : (j : Int) < (ps.length : Int) := by omega
       cases f with
       | true =>
         have hB : B = true := by rw [hD]; exact z9e hj2.symm
         repeat ((try conv => whnf); first | (refine Exists.intro ps.length (And.intro hsl ?_)) | (refine And.intro (by kernel_rfl) ?_) | (refine stpQ ?_))
         refine hQ2 _ _ ?_
         repeat ((try conv => whnf); first | (refine stpQ ?_))
         refine ⟨k + 1, ⟨by omega, hgo hB⟩, by omega, ?_⟩
         (refine z02 (by rfl) ?_ ?_) <;> repeat' (first | (exact eqA) | (refine shE ?_) | (refine And.intro ?_ ?_))
       | false =>
         have gS := z81 hjl
         have hnx := zeK (p := pinB ⟨gh, ge, (b : Int), ga, gop, gsh, gsi⟩ root) hjl
         rw [← hj2, Bool.false_or] at hnx
         have hP : pinB ⟨gh, ge, (b : Int), ga, gop, gsh, gsi⟩ root ps[j] = (decide (ps[j].ho = gh) && (decide (ps[j].ep = ge) && stA root ps[j].ho ps[j].ep ps[j].ro ps[j].pr ga gop gsh gsi)) := rfl
         have c2 := zdl root ps[j].ho ps[j].ep ps[j].ro ps[j].pr ga gop gsh gsi f1 f2 f3
         clear hj2
         rw [hP] at hnx
         clear hP
         generalize ps[j] = x at gS hnx c2
         obtain ⟨xh, xe, xr, xp, xa, xo, xs, xi⟩ := x
         unfold saE z1B z1r at gS
         simp only at gS hnx c2
         generalize stA root xh xe xr xp ga gop gsh gsi = S at c2 hnx
         by_cases q1 : xh = gh
         ·by_cases q2 : xe = ge
          ·rw [decide_eq_true q1, decide_eq_true q2, Bool.true_and, Bool.true_and] at hnx
           repeat ((try conv => whnf); first | (refine Exists.intro ps.length (And.intro hsl ?_)) | (refine i_at gS ?_) | (refine i_at gR ?_) | (refine ccA ([]) (c2) ?_) | (refine And.intro (by kernel_rfl) ?_) | (refine stpQ ?_))
           refine ⟨(j + 1, S), ⟨by simp; omega, hnx.symm⟩, by simp; omega, ?_⟩
           (refine z02 (by rfl) ?_ ?_) <;> repeat' (first | (exact eqA) | (refine shE ?_) | (refine And.intro ?_ ?_))
          ·rw [decide_eq_false q2, Bool.false_and, Bool.and_false] at hnx
           repeat ((try conv => whnf); first | (refine Exists.intro ps.length (And.intro hsl ?_)) | (refine i_at gS ?_) | (refine i_at gR ?_) | (refine ccA ([]) (c2) ?_) | (refine And.intro (by kernel_rfl) ?_) | (refine stpQ ?_))
           refine ⟨(j + 1, false), ⟨by simp; omega, hnx.symm⟩, by simp; omega, ?_⟩
           (refine z02 (by rfl) ?_ ?_) <;> repeat' (first | (exact eqA) | (refine shE ?_) | (refine And.intro ?_ ?_))
         ·rw [decide_eq_false q1, Bool.false_and] at hnx
          repeat ((try conv => whnf); first | (refine Exists.intro ps.length (And.intro hsl ?_)) | (refine i_at gS ?_) | (refine i_at gR ?_) | (refine ccA ([]) (c2) ?_) | (refine And.intro (by kernel_rfl) ?_) | (refine stpQ ?_))
          refine ⟨(j + 1, false), ⟨by simp; omega, hnx.symm⟩, by simp; omega, ?_⟩
          (refine z02 (by rfl) ?_ ?_) <;> repeat' (first | (exact eqA) | (refine shE ?_) | (refine And.intro ?_ ?_))
      ·have hje : j = ps.length := by omega
       subst hje
       rw [List.take_length, ← hD] at hj2
       cases f with
       | true =>
         repeat ((try conv => whnf); first | (refine Exists.intro ps.length (And.intro hsl ?_)) | (refine And.intro (by kernel_rfl) ?_) | (refine stpQ ?_))
         refine hQ2 _ _ ?_
         repeat ((try conv => whnf); first | (refine stpQ ?_))
         refine ⟨k + 1, ⟨by omega, hgo hj2.symm⟩, by omega, ?_⟩
         (refine z02 (by rfl) ?_ ?_) <;> repeat' (first | (exact eqA) | (refine shE ?_) | (refine And.intro ?_ ?_))
       | false =>
         repeat ((try conv => whnf); first | (refine Exists.intro ps.length (And.intro hsl ?_)) | (refine And.intro (by kernel_rfl) ?_) | (refine stpQ ?_))
         refine hQ2 _ _ ?_
         repeat ((try conv => whnf); first | (refine stpQ ?_))
         refine hQ1 _ _ ?_
         (try conv => whnf)
         rw [hfin hj2.symm]
         (refine z00 (by rfl) ?_ ?_ (by rfl)) <;> repeat' (first | (exact eqA) | (refine shE ?_) | (refine And.intro ?_ ?_))
    ·rw [decide_eq_false hb2, Bool.false_and] at hD
     have hb3 : (b : Int) ≥ (R.length : Int) := by omega
     repeat ((try conv => whnf); first | (refine Exists.intro gl.length (And.intro hgl ?_)) | (refine i_at gG ?_) | (refine Exists.intro _ (And.intro e1.symm ?_)) | (refine ccA ([]) (c3) ?_) | (refine Exists.intro R.length (And.intro hRl ?_)) | (refine And.intro (by kernel_rfl) ?_) | (refine stpQ ?_))
     refine hQ1 _ _ ?_
     (try conv => whnf)
     rw [hfin hD]
     (refine z00 (by rfl) ?_ ?_ (by rfl)) <;> repeat' (first | (exact eqA) | (refine shE ?_) | (refine And.intro ?_ ?_))
   ·rw [z21 hb] at c3 hD
    rw [Bool.false_and] at hD
    repeat ((try conv => whnf); first | (refine Exists.intro gl.length (And.intro hgl ?_)) | (refine i_at gG ?_) | (refine Exists.intro _ (And.intro e1.symm ?_)) | (refine ccA ([]) (c3) ?_) | (refine And.intro (by kernel_rfl) ?_) | (refine stpQ ?_))
    refine hQ1 _ _ ?_
    (try conv => whnf)
    rw [hfin hD]
    (refine z00 (by rfl) ?_ ?_ (by rfl)) <;> repeat' (first | (exact eqA) | (refine shE ?_) | (refine And.intro ?_ ?_))
  ·have hke : k = gl.length := by omega
   subst hke
   have hA2 : stsB z1.length R pn gl = true := zj2 fun j hj => hk2 j hj hj
   repeat ((try conv => whnf); first | (refine Exists.intro gl.length (And.intro hgl ?_)) | (refine stpQ ?_))
   refine hQ1 _ _ ?_
   repeat ((try conv => whnf); first | (refine stpQ ?_))
   rw [hA2]
   (refine z00 (by rfl) ?_ ?_ (by rfl)) <;> repeat' (first | (exact eqA) | (refine shE ?_) | (refine And.intro ?_ ?_))
end
theorem zn8 (z : List (List T)) (hz : ∀ e ∈ z, Fits 1048576 z0t e) : ∃ pf : Nat → List Bs, ∀ k, k < z.length → PoAt z pf k := by
 have key : ∀ k, ∃ p : List Bs, k < z.length → PoAt z (fun _ => p) k := fun k => by
  by_cases h : k < z.length
  ·obtain ⟨n0, n1, b2, z3, z4, z5, z6, n7, b8, z9, z10, z11, z12, z13, he, -, -, -, -, q4, -, -, -, -, -, -, -, -, -, -⟩ := z1P (hz _ (List.getElem_mem h))
   obtain ⟨po, rfl, -⟩ := z36 q4.2
   have a4 := q4.1
   rw [z05] at a4
   exact ⟨po, fun _ => ⟨n0, n1, b2, z3, z5, z6, n7, b8, z9, z10, z11, z12, z13, by rw [List.getElem?_eq_getElem h, he], a4⟩⟩
  ·exact ⟨[], fun c => absurd c h⟩
 exact ⟨fun k => Classical.choose (key k), fun k hk => Classical.choose_spec (key k) hk⟩
theorem au_all (z : List (List T)) (hz : ∀ e ∈ z, Fits 1048576 z0n e) : ∃ pn : Nat → List Sa, ∀ k, k < z.length → AuAt z pn k := by
 have key : ∀ k, ∃ p : List Sa, k < z.length → AuAt z (fun _ => p) k := fun k => by
  by_cases h : k < z.length
  ·obtain ⟨n0, b1, z2, z3, z4, z5, he, -, -, -, -, q4, -, -⟩ := z1N (hz _ (List.getElem_mem h))
   obtain ⟨ps, rfl, hp⟩ := zie q4.2
   have a4 := q4.1
   rw [z4o] at a4
   exact ⟨ps, fun _ => ⟨n0, b1, z2, z3, z5, by rw [List.getElem?_eq_getElem h, he], a4, hp⟩⟩
  ·exact ⟨[], fun c => absurd c h⟩
 exact ⟨fun k => Classical.choose (key k), fun k hk => Classical.choose_spec (key k) hk⟩
theorem dec_gv {z : List (List T)} (h : ∀ e ∈ z, Fits 1048576 z0J e) : ∃ l : List Gv, z = gvL l ∧ ∀ x ∈ l, zj0 x :=
 z2M gvE zj0 z fun e he => by
  obtain ⟨n0, n1, n2, n3, z4, z5, z6, rfl, -, -, -, -, q4, q5, q6, -⟩ := z2t (h e he)
  obtain ⟨l4, rfl, -⟩ := z36 q4.2
  obtain ⟨l5, rfl, -⟩ := z36 q5.2
  obtain ⟨l6, rfl, -⟩ := z36 q6.2
  have a4 := q4.1
  have a5 := q5.1
  have a6 := q6.1
  rw [z05] at a4 a5 a6
  exact ⟨⟨n0, n1, n2, n3, l4, l5, l6⟩, rfl, a4, a5, a6⟩
theorem z6i (e : List T) (q : Fits 1048576 z1y e) : ∃ b, CT Tryz.prog 8 [] [.agg e] (.bool b) [] ∧ CT Tryz.prog 10 [] [.agg e] (.bool b) [] := by
 obtain ⟨z0, z1, z2, z3, z4, z5, rfl, q0, q1, -, q3, -, -, -⟩ := z3A q
 obtain ⟨gl, rfl, hG⟩ := dec_gv q3.2
 obtain ⟨pf, hH⟩ := zn8 z0 q0.2
 obtain ⟨pn, hA⟩ := au_all z1 q1.2
 have a3 := q3.1
 rw [zdn] at a3
 exact ⟨_, z8A z0 z1 z2 z4 z5 gl pf pn q0.1 q1.1 a3 hH hA hG, zam z0 z1 z2 z4 z5 gl pf pn q0.1 q1.1 a3 hH hA hG⟩
end Go.Proofs.YthcfalipgnpelaaGreatDoor
