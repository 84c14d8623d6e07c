/- Functions by content: flat rows are marked and looked at by the exact laws. Functions by content: rows that own rows are marked and looked at by the exact laws. -/
import Derived.Test.YtnhcfmmdaihneaaGreatDoorVe
import Derived.Test.YtnhcfmmdaihneaaGreatDoorXt
import Derived.Test.YtnhcfmmdaihneaaGreatDoorPlainM
namespace Go.Proofs.YtnhcfmmdaihneaaGreatDoor
set_option maxRecDepth 100000
set_option maxHeartbeats 4000000
set_option linter.unusedVariables false
set_option linter.unusedSimpArgs false
set_option linter.unusedSectionVars false
open Go.RowKit Pl
theorem ze2 : ∀ (n : Nat) (out : Bs), (decG n out).length ≤ out.length + n := by
 intro n
 induction n using Nat.strongRecOn with
 | _ n ih =>
   intro out
   by_cases h : n = 0
   ·subst h; rw [z76]; omega
   ·rw [z77 h]
    have h1 : n / 10 < n := Nat.div_lt_self (by omega) (by omega)
    have := ih (n / 10) h1 (UInt8.ofNat (48 + n % 10) :: out)
    rw [List.length_cons] at this
    omega
def elSt (k : Nat) (_ : List T) : List T := [.str (z0G (k))]
def szSt (_ : List T) : Nat := 1
def WfSt (es : List (List T)) : Prop := ∀ e ∈ es, ∃ a0 : Bs, e = [.str a0]
def elLf (k : Nat) (_ : List T) : List T := [.str (z0G (k)), .str (z0G (k + 1))]
def szLf (_ : List T) : Nat := 2
def WfLf (es : List (List T)) : Prop := ∀ e ∈ es, ∃ a0 : Bs, ∃ a1 : Bs, e = [.str a0, .str a1]
section
attribute [local irreducible] z0s z0t z0x AnsP LeP W
theorem z1v (n : Nat) (hn : 0 < n) (hb : n ≤ 1000000000000000000) : CT Tryz.prog 124 [] [.int .i64 (n : Int)] (.str (z0G n)) [] := by
 have f0 : ¬ (n : Int) ≤ 0 := by omega
 have hm : z0G n = [109] ++ decG n [] := by rw [z0G, if_neg (by omega)]; rfl
 rw [hm]
 clear hm
 refine z0b z1j 1 rfl Tryz.func124 rfl rfl rfl ?_
 conv => arg 6; whnf
 repeat ((try conv => whnf); first | (with_reducible first | refine z0a (fun Qs hN hE hR => ?_) | refine z08 ?_ | refine z00 (fun Qb kN kE kX kR => ?_) | refine z03 ?_ | refine z04 ?_ | refine z09 ?_ | refine z05 ?_ | refine z06 ?_ | (show W _ _ _ (.cond _ _ _) _ _; refine z02 rfl ?_) | (refine hN _ ?_; try clear hN hE hR Qs) | ((first | refine hE _ _ ?_ | refine hR _ ?_); try clear hN hE hR Qs) | ((first | refine kN _ ?_ | refine kE _ ?_ | refine kX _ _ rfl ?_ | refine kR _ ?_); try clear kN kE kX kR Qb)) | (refine z0e f0 ?_) | (refine stpQ ?_))
 refine z0j 0 ⟨[(3, .str (decG n []))], [], 2⟩ (Nat × Bs) (fun x => ⟨[(0, .int .i64 (x.1 : Int)), (3, .str x.2)], [], 2⟩) (fun x => decG x.1 x.2 = decG n [] ∧ (x.2.length : Int) + x.1 ≤ 1000000000000000000) (fun x => x.1) (n, []) ⟨rfl, by simp; omega⟩ ?_ ?_ ?_
 ·(refine z01 (by rfl) ?_ ?_) <;> (repeat' (first | (exact eqA) | (refine shE ?_) | (refine And.intro ?_ ?_))) <;> first | rfl | decide
 ·intro x hx
  obtain ⟨m, out⟩ := x
  have h1 : decG m out = decG n [] := hx.1
  have h2 : (out.length : Int) + m ≤ 1000000000000000000 := hx.2
  clear hx
  by_cases hm : m = 0
  ·subst hm
   rw [z76] at h1
   repeat ((try conv => whnf); first | (with_reducible first | refine z0a (fun Qs hN hE hR => ?_) | refine z08 ?_ | refine z00 (fun Qb kN kE kX kR => ?_) | refine z03 ?_ | refine z04 ?_ | refine z09 ?_ | refine z05 ?_ | refine z06 ?_ | (show W _ _ _ (.cond _ _ _) _ _; refine z02 rfl ?_) | (refine hN _ ?_; try clear hN hE hR Qs) | ((first | refine hE _ _ ?_ | refine hR _ ?_); try clear hN hE hR Qs) | ((first | refine kN _ ?_ | refine kE _ ?_ | refine kX _ _ rfl ?_ | refine kR _ ?_); try clear kN kE kX kR Qb)) | (refine stpQ ?_))
   (refine z01 (by rfl) ?_ ?_) <;> (repeat' (first | (exact eqA) | (refine shE ?_) | (refine And.intro ?_ ?_))) <;> exact h1
  ·have hd : m / 10 < m := Nat.div_lt_self (by omega) (by omega)
   have fm : (m : Int) > 0 := by omega
   repeat ((try conv => whnf); first | (with_reducible first | refine z0a (fun Qs hN hE hR => ?_) | refine z08 ?_ | refine z00 (fun Qb kN kE kX kR => ?_) | refine z03 ?_ | refine z04 ?_ | refine z09 ?_ | refine z05 ?_ | refine z06 ?_ | (show W _ _ _ (.cond _ _ _) _ _; refine z02 rfl ?_) | (refine hN _ ?_; try clear hN hE hR Qs) | ((first | refine hE _ _ ?_ | refine hR _ ?_); try clear hN hE hR Qs) | ((first | refine kN _ ?_ | refine kE _ ?_ | refine kX _ _ rfl ?_ | refine kR _ ?_); try clear kN kE kX kR Qb)) | (refine z0d fm ?_) | (refine z14 (n := nat_lit 10) ?_) | (refine zcP (by omega) ?_) | (refine w_u8 ?_) | (refine z2v (n := nat_lit 10) (by omega) ?_) | (refine Exists.intro [UInt8.ofNat (48 + m % 10)] (And.intro rfl ?_)) | (refine And.intro (by simp only [List.length_cons, List.length_nil]; omega) ?_) | (refine stpQ ?_))
   refine ⟨(m / 10, UInt8.ofNat (48 + m % 10) :: out), ⟨by show decG (m / 10) _ = _; rw [← h1, z77 hm], ?_⟩, hd, ?_⟩
   ·show (((UInt8.ofNat (48 + m % 10) :: out).length : Nat) : Int) + ((m / 10 : Nat) : Int) ≤ 1000000000000000000
    rw [List.length_cons]; omega
   ·(refine z01 (by rfl) ?_ ?_) <;> (repeat' (first | (exact eqA) | (refine shE ?_) | (refine And.intro ?_ ?_))) <;> rfl
 ·have hle : (decG n []).length ≤ n := by have := ze2 n []; simpa using this
  generalize decG n [] = o at *
  repeat ((try conv => whnf); first | (with_reducible first | refine z0a (fun Qs hN hE hR => ?_) | refine z08 ?_ | refine z00 (fun Qb kN kE kX kR => ?_) | refine z03 ?_ | refine z04 ?_ | refine z09 ?_ | refine z05 ?_ | refine z06 ?_ | (show W _ _ _ (.cond _ _ _) _ _; refine z02 rfl ?_) | (refine hN _ ?_; try clear hN hE hR Qs) | ((first | refine hE _ _ ?_ | refine hR _ ?_); try clear hN hE hR Qs) | ((first | refine kN _ ?_ | refine kE _ ?_ | refine kX _ _ rfl ?_ | refine kR _ ?_); try clear kN kE kX kR Qb)) | (refine And.intro (by simp only [List.length_cons, List.length_nil]; omega) ?_) | (refine stpQ ?_))
  (refine z07 (by rfl) ?_ ?_ (by rfl)) <;> (repeat' (first | (exact eqA) | (refine shE ?_) | (refine And.intro ?_ ?_)))
theorem z3i (es : List (List T)) (hw : WfSt es) (k : Nat) (hk : 0 < k) (hb : k + cnG szSt es ≤ 1000000000000000000) (hl : (es.length : Int) ≤ 1000000000) :
 CT Tryz.prog 50 [.deep 1 es []] [.ref 1, .int .i64 (k : Int)] (.int .i64 ((k + cnG szSt es : Nat) : Int)) [.deep 1 (mkG elSt szSt k es) []] := by
 refine z0b z1j 2 rfl Tryz.func50 rfl rfl rfl ?_
 conv => arg 6; whnf
 repeat ((try conv => whnf); first | (with_reducible first | refine z0a (fun Qs hN hE hR => ?_) | refine z08 ?_ | refine z00 (fun Qb kN kE kX kR => ?_) | refine z03 ?_ | refine z04 ?_ | refine z09 ?_ | refine z05 ?_ | refine z06 ?_ | (show W _ _ _ (.cond _ _ _) _ _; refine z02 rfl ?_) | (refine hN _ ?_; try clear hN hE hR Qs) | ((first | refine hE _ _ ?_ | refine hR _ ?_); try clear hN hE hR Qs) | ((first | refine kN _ ?_ | refine kE _ ?_ | refine kX _ _ rfl ?_ | refine kR _ ?_); try clear kN kE kX kR Qb)) | (refine stpQ ?_))
 refine z0j 0 ⟨[(1, .int .i64 ((k + cnG szSt es : Nat) : Int))], [(1, some (.deep 1 (mkG elSt szSt k es) []))], 2⟩ Nat (fun i => ⟨[(0, .ref 1), (1, .int .i64 ((k + cnG szSt (es.take i) : Nat) : Int)), (5, .int .i64 (i : Int))], [(1, some (.deep 1 (rwG elSt szSt k es i) []))], 2⟩) (fun i => i ≤ es.length) (fun i => es.length - i) 0 (Nat.zero_le _) ?_ ?_ ?_
 ·(refine z01 (by rfl) ?_ ?_) <;> (repeat' (first | (exact eqA) | (refine shE ?_) | (refine And.intro ?_ ?_))) <;> first | rfl | decide
 ·intro i hi
  have hlen := z8e elSt szSt (k := k) hi
  by_cases hlt : i < es.length
  ·have f1 : (i : Int) < ((rwG elSt szSt k es i).length : Int) := by omega
   have i1 : i < (rwG elSt szSt k es i).length := by omega
   have g := zbw elSt szSt (k := k) hlt
   have hnx : (rwG elSt szSt k es i).set i [.str (z0G ((k + cnG szSt (es.take i))))] = rwG elSt szSt k es (i + 1) := z6s elSt szSt (k := k) hlt
   have hcn : cnG szSt (es.take (i + 1)) = cnG szSt (es.take i) + 1 := z2I szSt hlt
   have hcl := z5z szSt (es := es) (i := i + 1)
   have e10 : k + cnG szSt (es.take (i + 1)) = (k + cnG szSt (es.take i)) + 1 := by omega
   obtain ⟨a0, he⟩ := hw _ (List.getElem_mem hlt)
   rw [he] at g
   have hnp : 0 < k + cnG szSt (es.take i) := by omega
   have hnb : k + cnG szSt (es.take i) + 1 ≤ 1000000000000000000 := by omega
   generalize rwG elSt szSt k es i = R at *
   generalize k + cnG szSt (es.take i) = n at *
   clear hb hk hcn hcl he hw
   have m0 := z1v (n) (by omega) (by omega)
   generalize z0G (n) = t0 at *
   have h1 : ∀ X, i < (R.set i X).length := fun X => by rw [List.length_set]; exact i1
   have gs : ∀ X, (R.set i X)[i]? = some X := fun X => by rw [List.getElem?_set_self i1]
   repeat ((try conv => whnf); first | (with_reducible first | refine z0a (fun Qs hN hE hR => ?_) | refine z08 ?_ | refine z00 (fun Qb kN kE kX kR => ?_) | refine z03 ?_ | refine z04 ?_ | refine z09 ?_ | refine z05 ?_ | refine z06 ?_ | (show W _ _ _ (.cond _ _ _) _ _; refine z02 rfl ?_) | (refine hN _ ?_; try clear hN hE hR Qs) | ((first | refine hE _ _ ?_ | refine hR _ ?_); try clear hN hE hR Qs) | ((first | refine kN _ ?_ | refine kE _ ?_ | refine kX _ _ rfl ?_ | refine kR _ ?_); try clear kN kE kX kR Qb)) | (refine z0d f1 ?_) | (refine And.intro i1 ?_) | (refine And.intro (h1 _) ?_) | (refine Exists.intro _ (And.intro g ?_)) | (refine Exists.intro _ (And.intro (gs _) ?_)) | (refine ccA ([]) (m0) ?_) | (refine And.intro (by kernel_rfl) ?_) | (rw [List.set_set]) | (refine stpQ ?_))
   refine ⟨i + 1, hlt, by omega, ?_⟩
   rw [e10]
   (refine z01 (by rfl) ?_ ?_) <;> (repeat' (first | (exact eqA) | (refine shE ?_) | (refine And.intro ?_ ?_))) <;> first | rfl | exact hnx | (rw [List.set_set]; exact hnx)
  ·have hie : i = es.length := by omega
   subst hie
   have f1 : ¬ (es.length : Int) < ((rwG elSt szSt k es es.length).length : Int) := by omega
   repeat ((try conv => whnf); first | (with_reducible first | refine z0a (fun Qs hN hE hR => ?_) | refine z08 ?_ | refine z00 (fun Qb kN kE kX kR => ?_) | refine z03 ?_ | refine z04 ?_ | refine z09 ?_ | refine z05 ?_ | refine z06 ?_ | (show W _ _ _ (.cond _ _ _) _ _; refine z02 rfl ?_) | (refine hN _ ?_; try clear hN hE hR Qs) | ((first | refine hE _ _ ?_ | refine hR _ ?_); try clear hN hE hR Qs) | ((first | refine kN _ ?_ | refine kE _ ?_ | refine kX _ _ rfl ?_ | refine kR _ ?_); try clear kN kE kX kR Qb)) | (refine z0e f1 ?_) | (refine stpQ ?_))
   rw [List.take_length]
   (refine z01 (by rfl) ?_ ?_) <;> (repeat' (first | (exact eqA) | (refine shE ?_) | (refine And.intro ?_ ?_))) <;> first | rfl | exact z6r _ _ _ _
 ·repeat ((try conv => whnf); first | (with_reducible first | refine z0a (fun Qs hN hE hR => ?_) | refine z08 ?_ | refine z00 (fun Qb kN kE kX kR => ?_) | refine z03 ?_ | refine z04 ?_ | refine z09 ?_ | refine z05 ?_ | refine z06 ?_ | (show W _ _ _ (.cond _ _ _) _ _; refine z02 rfl ?_) | (refine hN _ ?_; try clear hN hE hR Qs) | ((first | refine hE _ _ ?_ | refine hR _ ?_); try clear hN hE hR Qs) | ((first | refine kN _ ?_ | refine kE _ ?_ | refine kX _ _ rfl ?_ | refine kR _ ?_); try clear kN kE kX kR Qb)) | (refine stpQ ?_))
  (refine z07 (by rfl) ?_ ?_ (by rfl)) <;> (repeat' (first | (exact eqA) | (refine shE ?_) | (refine And.intro ?_ ?_)))
theorem z3j (es : List (List T)) (k : Nat) (hk : 0 < k) (hb : k + cnG szSt es ≤ 1000000000000000000) (hl : (es.length : Int) ≤ 1000000000) :
 CT Tryz.prog 52 [.deep 1 (mkG elSt szSt k es) []] [.ref 1, .int .i64 (k : Int)] (.int .i64 ((k + cnG szSt es : Nat) : Int)) [.deep 1 (mkG elSt szSt k es) []] := by
 have hlen := z2h elSt szSt k es
 refine z0b z1j 2 rfl Tryz.func52 rfl rfl rfl ?_
 conv => arg 6; whnf
 repeat ((try conv => whnf); first | (with_reducible first | refine z0a (fun Qs hN hE hR => ?_) | refine z08 ?_ | refine z00 (fun Qb kN kE kX kR => ?_) | refine z03 ?_ | refine z04 ?_ | refine z09 ?_ | refine z05 ?_ | refine z06 ?_ | (show W _ _ _ (.cond _ _ _) _ _; refine z02 rfl ?_) | (refine hN _ ?_; try clear hN hE hR Qs) | ((first | refine hE _ _ ?_ | refine hR _ ?_); try clear hN hE hR Qs) | ((first | refine kN _ ?_ | refine kE _ ?_ | refine kX _ _ rfl ?_ | refine kR _ ?_); try clear kN kE kX kR Qb)) | (refine stpQ ?_))
 refine z1G Nat (fun i => ⟨[(0, .ref 1), (1, .int .i64 ((k + cnG szSt (es.take i) : Nat) : Int)), (5, .int .i64 (i : Int))], [(1, some (.deep 1 (mkG elSt szSt k es) []))], 2⟩) (fun i => i ≤ es.length) (fun i => es.length - i) 0 (Nat.zero_le _) ?_ ?_
 ·(refine z01 (by rfl) ?_ ?_) <;> (repeat' (first | (exact eqA) | (refine shE ?_) | (refine And.intro ?_ ?_))) <;> first | rfl | decide
 ·intro Q1 hQ1 i hi
  by_cases hlt : i < es.length
  ·have f1 : (i : Int) < ((mkG elSt szSt k es).length : Int) := by omega
   have i1 : i < (mkG elSt szSt k es).length := by omega
   have g : (mkG elSt szSt k es)[i]? = some [.str (z0G ((k + cnG szSt (es.take i))))] := z8d elSt szSt k hlt
   have hcn : cnG szSt (es.take (i + 1)) = cnG szSt (es.take i) + 1 := z2I szSt hlt
   have hcl := z5z szSt (es := es) (i := i + 1)
   have e10 : k + cnG szSt (es.take (i + 1)) = (k + cnG szSt (es.take i)) + 1 := by omega
   have hnp : 0 < k + cnG szSt (es.take i) := by omega
   have hnb : k + cnG szSt (es.take i) + 1 ≤ 1000000000000000000 := by omega
   generalize mkG elSt szSt k es = R at *
   generalize k + cnG szSt (es.take i) = n at *
   clear hb hk hcn hcl
   have m0 := z1v (n) (by omega) (by omega)
   generalize z0G (n) = t0 at *
   have r0 : t0 = t0 := rfl
   repeat ((try conv => whnf); first | (with_reducible first | refine z0a (fun Qs hN hE hR => ?_) | refine z08 ?_ | refine z00 (fun Qb kN kE kX kR => ?_) | refine z03 ?_ | refine z04 ?_ | refine z09 ?_ | refine z05 ?_ | refine z06 ?_ | (show W _ _ _ (.cond _ _ _) _ _; refine z02 rfl ?_) | (refine hN _ ?_; try clear hN hE hR Qs) | ((first | refine hE _ _ ?_ | refine hR _ ?_); try clear hN hE hR Qs) | ((first | refine kN _ ?_ | refine kE _ ?_ | refine kX _ _ rfl ?_ | refine kR _ ?_); try clear kN kE kX kR Qb)) | (refine z0d f1 ?_) | (refine And.intro i1 ?_) | (refine Exists.intro _ (And.intro g ?_)) | (refine ccA ([]) (m0) ?_) | (refine z2k r0 ?_) | (refine And.intro (by kernel_rfl) ?_) | (refine stpQ ?_))
   refine ⟨i + 1, hlt, by omega, ?_⟩
   rw [e10]
   (refine z01 (by rfl) ?_ ?_) <;> (repeat' (first | (exact eqA) | (refine shE ?_) | (refine And.intro ?_ ?_)))
  ·have hie : i = es.length := by omega
   subst hie
   have f1 : ¬ (es.length : Int) < ((mkG elSt szSt k es).length : Int) := by omega
   repeat ((try conv => whnf); first | (with_reducible first | refine z0a (fun Qs hN hE hR => ?_) | refine z08 ?_ | refine z00 (fun Qb kN kE kX kR => ?_) | refine z03 ?_ | refine z04 ?_ | refine z09 ?_ | refine z05 ?_ | refine z06 ?_ | (show W _ _ _ (.cond _ _ _) _ _; refine z02 rfl ?_) | (refine hN _ ?_; try clear hN hE hR Qs) | ((first | refine hE _ _ ?_ | refine hR _ ?_); try clear hN hE hR Qs) | ((first | refine kN _ ?_ | refine kE _ ?_ | refine kX _ _ rfl ?_ | refine kR _ ?_); try clear kN kE kX kR Qb)) | (refine z0e f1 ?_) | (refine stpQ ?_))
   refine hQ1 _ _ ?_
   clear hQ1 Q1
   rw [List.take_length]
   repeat ((try conv => whnf); first | (with_reducible first | refine z0a (fun Qs hN hE hR => ?_) | refine z08 ?_ | refine z00 (fun Qb kN kE kX kR => ?_) | refine z03 ?_ | refine z04 ?_ | refine z09 ?_ | refine z05 ?_ | refine z06 ?_ | (show W _ _ _ (.cond _ _ _) _ _; refine z02 rfl ?_) | (refine hN _ ?_; try clear hN hE hR Qs) | ((first | refine hE _ _ ?_ | refine hR _ ?_); try clear hN hE hR Qs) | ((first | refine kN _ ?_ | refine kE _ ?_ | refine kX _ _ rfl ?_ | refine kR _ ?_); try clear kN kE kX kR Qb)) | (refine stpQ ?_))
   (refine z07 (by rfl) ?_ ?_ (by rfl)) <;> (repeat' (first | (exact eqA) | (refine shE ?_) | (refine And.intro ?_ ?_)))
theorem z8o (es : List (List T)) (hw : WfLf es) (k : Nat) (hk : 0 < k) (hb : k + cnG szLf es ≤ 1000000000000000000) (hl : (es.length : Int) ≤ 1000000000) :
 CT Tryz.prog 125 [.deep 2 es []] [.ref 1, .int .i64 (k : Int)] (.int .i64 ((k + cnG szLf es : Nat) : Int)) [.deep 2 (mkG elLf szLf k es) []] := by
 refine z0b z1j 2 rfl Tryz.func125 rfl rfl rfl ?_
 conv => arg 6; whnf
 repeat ((try conv => whnf); first | (with_reducible first | refine z0a (fun Qs hN hE hR => ?_) | refine z08 ?_ | refine z00 (fun Qb kN kE kX kR => ?_) | refine z03 ?_ | refine z04 ?_ | refine z09 ?_ | refine z05 ?_ | refine z06 ?_ | (show W _ _ _ (.cond _ _ _) _ _; refine z02 rfl ?_) | (refine hN _ ?_; try clear hN hE hR Qs) | ((first | refine hE _ _ ?_ | refine hR _ ?_); try clear hN hE hR Qs) | ((first | refine kN _ ?_ | refine kE _ ?_ | refine kX _ _ rfl ?_ | refine kR _ ?_); try clear kN kE kX kR Qb)) | (refine stpQ ?_))
 refine z0j 0 ⟨[(1, .int .i64 ((k + cnG szLf es : Nat) : Int))], [(1, some (.deep 2 (mkG elLf szLf k es) []))], 2⟩ Nat (fun i => ⟨[(0, .ref 1), (1, .int .i64 ((k + cnG szLf (es.take i) : Nat) : Int)), (5, .int .i64 (i : Int))], [(1, some (.deep 2 (rwG elLf szLf k es i) []))], 2⟩) (fun i => i ≤ es.length) (fun i => es.length - i) 0 (Nat.zero_le _) ?_ ?_ ?_
 ·(refine z01 (by rfl) ?_ ?_) <;> (repeat' (first | (exact eqA) | (refine shE ?_) | (refine And.intro ?_ ?_))) <;> first | rfl | decide
 ·intro i hi
  have hlen := z8e elLf szLf (k := k) hi
  by_cases hlt : i < es.length
  ·have f1 : (i : Int) < ((rwG elLf szLf k es i).length : Int) := by omega
   have i1 : i < (rwG elLf szLf k es i).length := by omega
   have g := zbw elLf szLf (k := k) hlt
   have hnx : (rwG elLf szLf k es i).set i [.str (z0G ((k + cnG szLf (es.take i)))), .str (z0G ((k + cnG szLf (es.take i)) + 1))] = rwG elLf szLf k es (i + 1) := z6s elLf szLf (k := k) hlt
   have hcn : cnG szLf (es.take (i + 1)) = cnG szLf (es.take i) + 2 := z2I szLf hlt
   have hcl := z5z szLf (es := es) (i := i + 1)
   have e10 : k + cnG szLf (es.take (i + 1)) = (k + cnG szLf (es.take i)) + 1 + 1 := by omega
   obtain ⟨a0, a1, he⟩ := hw _ (List.getElem_mem hlt)
   rw [he] at g
   have hnp : 0 < k + cnG szLf (es.take i) := by omega
   have hnb : k + cnG szLf (es.take i) + 2 ≤ 1000000000000000000 := by omega
   generalize rwG elLf szLf k es i = R at *
   generalize k + cnG szLf (es.take i) = n at *
   clear hb hk hcn hcl he hw
   have m0 := z1v (n) (by omega) (by omega)
   generalize z0G (n) = t0 at *
   have m1 := z1v (n + 1) (by omega) (by omega)
   generalize z0G (n + 1) = t1 at *
   have h1 : ∀ X, i < (R.set i X).length := fun X => by rw [List.length_set]; exact i1
   have gs : ∀ X, (R.set i X)[i]? = some X := fun X => by rw [List.getElem?_set_self i1]
   repeat ((try conv => whnf); first | (with_reducible first | refine z0a (fun Qs hN hE hR => ?_) | refine z08 ?_ | refine z00 (fun Qb kN kE kX kR => ?_) | refine z03 ?_ | refine z04 ?_ | refine z09 ?_ | refine z05 ?_ | refine z06 ?_ | (show W _ _ _ (.cond _ _ _) _ _; refine z02 rfl ?_) | (refine hN _ ?_; try clear hN hE hR Qs) | ((first | refine hE _ _ ?_ | refine hR _ ?_); try clear hN hE hR Qs) | ((first | refine kN _ ?_ | refine kE _ ?_ | refine kX _ _ rfl ?_ | refine kR _ ?_); try clear kN kE kX kR Qb)) | (refine z0d f1 ?_) | (refine And.intro i1 ?_) | (refine And.intro (h1 _) ?_) | (refine Exists.intro _ (And.intro g ?_)) | (refine Exists.intro _ (And.intro (gs _) ?_)) | (refine ccA ([]) (m0) ?_) | (refine ccA ([]) (m1) ?_) | (refine And.intro (by kernel_rfl) ?_) | (rw [List.set_set]) | (refine stpQ ?_))
   refine ⟨i + 1, hlt, by omega, ?_⟩
   rw [e10]
   (refine z01 (by rfl) ?_ ?_) <;> (repeat' (first | (exact eqA) | (refine shE ?_) | (refine And.intro ?_ ?_))) <;> first | rfl | exact hnx | (rw [List.set_set]; exact hnx)
  ·have hie : i = es.length := by omega
   subst hie
   have f1 : ¬ (es.length : Int) < ((rwG elLf szLf k es es.length).length : Int) := by omega
   repeat ((try conv => whnf); first | (with_reducible first | refine z0a (fun Qs hN hE hR => ?_) | refine z08 ?_ | refine z00 (fun Qb kN kE kX kR => ?_) | refine z03 ?_ | refine z04 ?_ | refine z09 ?_ | refine z05 ?_ | refine z06 ?_ | (show W _ _ _ (.cond _ _ _) _ _; refine z02 rfl ?_) | (refine hN _ ?_; try clear hN hE hR Qs) | ((first | refine hE _ _ ?_ | refine hR _ ?_); try clear hN hE hR Qs) | ((first | refine kN _ ?_ | refine kE _ ?_ | refine kX _ _ rfl ?_ | refine kR _ ?_); try clear kN kE kX kR Qb)) | (refine z0e f1 ?_) | (refine stpQ ?_))
   rw [List.take_length]
   (refine z01 (by rfl) ?_ ?_) <;> (repeat' (first | (exact eqA) | (refine shE ?_) | (refine And.intro ?_ ?_))) <;> first | rfl | exact z6r _ _ _ _
 ·repeat ((try conv => whnf); first | (with_reducible first | refine z0a (fun Qs hN hE hR => ?_) | refine z08 ?_ | refine z00 (fun Qb kN kE kX kR => ?_) | refine z03 ?_ | refine z04 ?_ | refine z09 ?_ | refine z05 ?_ | refine z06 ?_ | (show W _ _ _ (.cond _ _ _) _ _; refine z02 rfl ?_) | (refine hN _ ?_; try clear hN hE hR Qs) | ((first | refine hE _ _ ?_ | refine hR _ ?_); try clear hN hE hR Qs) | ((first | refine kN _ ?_ | refine kE _ ?_ | refine kX _ _ rfl ?_ | refine kR _ ?_); try clear kN kE kX kR Qb)) | (refine stpQ ?_))
  (refine z07 (by rfl) ?_ ?_ (by rfl)) <;> (repeat' (first | (exact eqA) | (refine shE ?_) | (refine And.intro ?_ ?_)))
theorem z8p (es : List (List T)) (k : Nat) (hk : 0 < k) (hb : k + cnG szLf es ≤ 1000000000000000000) (hl : (es.length : Int) ≤ 1000000000) :
 CT Tryz.prog 126 [.deep 2 (mkG elLf szLf k es) []] [.ref 1, .int .i64 (k : Int)] (.int .i64 ((k + cnG szLf es : Nat) : Int)) [.deep 2 (mkG elLf szLf k es) []] := by
 have hlen := z2h elLf szLf k es
 refine z0b z1j 2 rfl Tryz.func126 rfl rfl rfl ?_
 conv => arg 6; whnf
 repeat ((try conv => whnf); first | (with_reducible first | refine z0a (fun Qs hN hE hR => ?_) | refine z08 ?_ | refine z00 (fun Qb kN kE kX kR => ?_) | refine z03 ?_ | refine z04 ?_ | refine z09 ?_ | refine z05 ?_ | refine z06 ?_ | (show W _ _ _ (.cond _ _ _) _ _; refine z02 rfl ?_) | (refine hN _ ?_; try clear hN hE hR Qs) | ((first | refine hE _ _ ?_ | refine hR _ ?_); try clear hN hE hR Qs) | ((first | refine kN _ ?_ | refine kE _ ?_ | refine kX _ _ rfl ?_ | refine kR _ ?_); try clear kN kE kX kR Qb)) | (refine stpQ ?_))
 refine z1G Nat (fun i => ⟨[(0, .ref 1), (1, .int .i64 ((k + cnG szLf (es.take i) : Nat) : Int)), (5, .int .i64 (i : Int))], [(1, some (.deep 2 (mkG elLf szLf k es) []))], 2⟩) (fun i => i ≤ es.length) (fun i => es.length - i) 0 (Nat.zero_le _) ?_ ?_
 ·(refine z01 (by rfl) ?_ ?_) <;> (repeat' (first | (exact eqA) | (refine shE ?_) | (refine And.intro ?_ ?_))) <;> first | rfl | decide
 ·intro Q1 hQ1 i hi
  by_cases hlt : i < es.length
  ·have f1 : (i : Int) < ((mkG elLf szLf k es).length : Int) := by omega
   have i1 : i < (mkG elLf szLf k es).length := by omega
   have g : (mkG elLf szLf k es)[i]? = some [.str (z0G ((k + cnG szLf (es.take i)))), .str (z0G ((k + cnG szLf (es.take i)) + 1))] := z8d elLf szLf k hlt
   have hcn : cnG szLf (es.take (i + 1)) = cnG szLf (es.take i) + 2 := z2I szLf hlt
   have hcl := z5z szLf (es := es) (i := i + 1)
   have e10 : k + cnG szLf (es.take (i + 1)) = (k + cnG szLf (es.take i)) + 1 + 1 := by omega
   have hnp : 0 < k + cnG szLf (es.take i) := by omega
   have hnb : k + cnG szLf (es.take i) + 2 ≤ 1000000000000000000 := by omega
   generalize mkG elLf szLf k es = R at *
   generalize k + cnG szLf (es.take i) = n at *
   clear hb hk hcn hcl
   have m0 := z1v (n) (by omega) (by omega)
   generalize z0G (n) = t0 at *
   have r0 : t0 = t0 := rfl
   have m1 := z1v (n + 1) (by omega) (by omega)
   generalize z0G (n + 1) = t1 at *
   have r1 : t1 = t1 := rfl
   repeat ((try conv => whnf); first | (with_reducible first | refine z0a (fun Qs hN hE hR => ?_) | refine z08 ?_ | refine z00 (fun Qb kN kE kX kR => ?_) | refine z03 ?_ | refine z04 ?_ | refine z09 ?_ | refine z05 ?_ | refine z06 ?_ | (show W _ _ _ (.cond _ _ _) _ _; refine z02 rfl ?_) | (refine hN _ ?_; try clear hN hE hR Qs) | ((first | refine hE _ _ ?_ | refine hR _ ?_); try clear hN hE hR Qs) | ((first | refine kN _ ?_ | refine kE _ ?_ | refine kX _ _ rfl ?_ | refine kR _ ?_); try clear kN kE kX kR Qb)) | (refine z0d f1 ?_) | (refine And.intro i1 ?_) | (refine Exists.intro _ (And.intro g ?_)) | (refine ccA ([]) (m0) ?_) | (refine ccA ([]) (m1) ?_) | (refine z2k r0 ?_) | (refine z2k r1 ?_) | (refine And.intro (by kernel_rfl) ?_) | (refine stpQ ?_))
   refine ⟨i + 1, hlt, by omega, ?_⟩
   rw [e10]
   (refine z01 (by rfl) ?_ ?_) <;> (repeat' (first | (exact eqA) | (refine shE ?_) | (refine And.intro ?_ ?_)))
  ·have hie : i = es.length := by omega
   subst hie
   have f1 : ¬ (es.length : Int) < ((mkG elLf szLf k es).length : Int) := by omega
   repeat ((try conv => whnf); first | (with_reducible first | refine z0a (fun Qs hN hE hR => ?_) | refine z08 ?_ | refine z00 (fun Qb kN kE kX kR => ?_) | refine z03 ?_ | refine z04 ?_ | refine z09 ?_ | refine z05 ?_ | refine z06 ?_ | (show W _ _ _ (.cond _ _ _) _ _; refine z02 rfl ?_) | (refine hN _ ?_; try clear hN hE hR Qs) | ((first | refine hE _ _ ?_ | refine hR _ ?_); try clear hN hE hR Qs) | ((first | refine kN _ ?_ | refine kE _ ?_ | refine kX _ _ rfl ?_ | refine kR _ ?_); try clear kN kE kX kR Qb)) | (refine z0e f1 ?_) | (refine stpQ ?_))
   refine hQ1 _ _ ?_
   clear hQ1 Q1
   rw [List.take_length]
   repeat ((try conv => whnf); first | (with_reducible first | refine z0a (fun Qs hN hE hR => ?_) | refine z08 ?_ | refine z00 (fun Qb kN kE kX kR => ?_) | refine z03 ?_ | refine z04 ?_ | refine z09 ?_ | refine z05 ?_ | refine z06 ?_ | (show W _ _ _ (.cond _ _ _) _ _; refine z02 rfl ?_) | (refine hN _ ?_; try clear hN hE hR Qs) | ((first | refine hE _ _ ?_ | refine hR _ ?_); try clear hN hE hR Qs) | ((first | refine kN _ ?_ | refine kE _ ?_ | refine kX _ _ rfl ?_ | refine kR _ ?_); try clear kN kE kX kR Qb)) | (refine stpQ ?_))
   (refine z07 (by rfl) ?_ ?_ (by rfl)) <;> (repeat' (first | (exact eqA) | (refine shE ?_) | (refine And.intro ?_ ?_)))
end
end Go.Proofs.YtnhcfmmdaihneaaGreatDoor
namespace Go.Proofs.YtnhcfmmdaihneaaGreatDoor
set_option maxRecDepth 100000
set_option maxHeartbeats 4000000
set_option linter.unusedVariables false
set_option linter.unusedSimpArgs false
set_option linter.unusedSectionVars false
open Go.RowKit Pl
def z1h (k : Nat) : List T → List T
 | [.own _ o0] => [.own 2 (mkG elLf szLf (k) o0)]
 | e => e
def z0o : List T → Nat
 | [.own _ o0] => 0 + cnG szLf o0
 | _ => 0
def za9 (es : List (List T)) : Prop := ∀ e ∈ es, ∃ o0 : List (List T), e = [.own 2 o0] ∧ WfLf o0 ∧ (o0.length : Int) ≤ 1000000000
section
attribute [local irreducible] z0s z0t z0x AnsP LeP W
theorem z7y (es : List (List T)) (hw : za9 es) (k : Nat) (hk : 0 < k) (hb : k + cnG z0o es ≤ 1000000000000000000) (hl : (es.length : Int) ≤ 1000000000) :
 CT Tryz.prog 51 [.deep 1 (es) []] [.ref 1, .int .i64 (k : Int)] (.int .i64 ((k + cnG z0o es : Nat) : Int)) [.deep 1 (mkG z1h z0o k es) []] := by
 refine z0b z1j 2 rfl Tryz.func51 rfl rfl rfl ?_
 conv => arg 6; whnf
 repeat ((try conv => whnf); first | (with_reducible first | refine z0a (fun Qs hN hE hR => ?_) | refine z08 ?_ | refine z00 (fun Qb kN kE kX kR => ?_) | refine z03 ?_ | refine z04 ?_ | refine z09 ?_ | refine z05 ?_ | refine z06 ?_ | (show W _ _ _ (.cond _ _ _) _ _; refine z02 rfl ?_) | (refine hN _ ?_; try clear hN hE hR Qs) | ((first | refine hE _ _ ?_ | refine hR _ ?_); try clear hN hE hR Qs) | ((first | refine kN _ ?_ | refine kE _ ?_ | refine kX _ _ rfl ?_ | refine kR _ ?_); try clear kN kE kX kR Qb)) | (refine stpQ ?_))
 refine z72 0 ⟨[(1, .int .i64 ((k + cnG z0o es : Nat) : Int))], [(1, some (.deep 1 (mkG z1h z0o k es) []))], 2⟩ Nat (fun i => ⟨[(0, .ref 1), (1, .int .i64 ((k + cnG z0o (es.take i) : Nat) : Int)), (5, .int .i64 (i : Int))], [(1, some (.deep 1 (rwG z1h z0o k es i) []))], 2⟩) (fun i => i ≤ es.length) (fun i => es.length - i) 0 (Nat.zero_le _) ?_ ?_ ?_
 ·(refine z01 (by rfl) ?_ ?_) <;> (repeat' (first | (exact eqA) | (refine shE ?_) | (refine And.intro ?_ ?_))) <;> first | rfl | decide
 ·intro i hi
  have hlen := z8e z1h z0o (k := k) hi
  by_cases hlt : i < es.length
  ·have f1 : (i : Int) < ((rwG z1h z0o k es i).length : Int) := by omega
   have i1 : i < (rwG z1h z0o k es i).length := by omega
   have g := zbw z1h z0o (k := k) hlt
   have hcl := z5z z0o (es := es) (i := i + 1)
   obtain ⟨o0, he, w0, l0⟩ := hw _ (List.getElem_mem hlt)
   rw [he] at g
   have hnx : (rwG z1h z0o k es i).set i [.own 2 (mkG elLf szLf ((k + cnG z0o (es.take i))) o0)] = rwG z1h z0o k es (i + 1) := by
    have := z6s z1h z0o (k := k) hlt
    rw [he] at this
    exact this
   have hcn : cnG z0o (es.take (i + 1)) = cnG z0o (es.take i) + (0 + cnG szLf o0) := by
    have := z2I z0o hlt
    rw [he] at this
    exact this
   have hnp : 0 < k + cnG z0o (es.take i) := by omega
   have hnb : k + cnG z0o (es.take i) + (0 + cnG szLf o0) ≤ 1000000000000000000 := by omega
   have e11 : k + cnG z0o (es.take (i + 1)) = k + cnG z0o (es.take i) + (0 + cnG szLf o0) := by omega
   generalize rwG z1h z0o k es i = R at *
   generalize k + cnG z0o (es.take i) = n at *
   clear hb hk hcn hcl he hw
   have e10 : k + cnG z0o (es.take (i + 1)) = (n + cnG szLf o0) := by omega
   have d0 := z8o o0 w0 (n) (by omega) (by omega) l0
   have h1 : ∀ X, i < (R.set i X).length := fun X => by rw [List.length_set]; exact i1
   have gs : ∀ X, (R.set i X)[i]? = some X := fun X => by rw [List.getElem?_set_self i1]
   generalize mkG elLf szLf (n) o0 = p0 at *
   repeat ((try conv => whnf); first | (with_reducible first | refine z0a (fun Qs hN hE hR => ?_) | refine z08 ?_ | refine z00 (fun Qb kN kE kX kR => ?_) | refine z03 ?_ | refine z04 ?_ | refine z09 ?_ | refine z05 ?_ | refine z06 ?_ | (show W _ _ _ (.cond _ _ _) _ _; refine z02 rfl ?_) | (refine hN _ ?_; try clear hN hE hR Qs) | ((first | refine hE _ _ ?_ | refine hR _ ?_); try clear hN hE hR Qs) | ((first | refine kN _ ?_ | refine kE _ ?_ | refine kX _ _ rfl ?_ | refine kR _ ?_); try clear kN kE kX kR Qb)) | (refine z0d f1 ?_) | (refine And.intro i1 ?_) | (refine And.intro (h1 _) ?_) | (refine Exists.intro _ (And.intro g ?_)) | (refine Exists.intro _ (And.intro (gs _) ?_)) | (refine ccB ([_]) (d0) ?_) | (refine And.intro (by kernel_rfl) ?_) | (rw [List.set_set]) | (refine stpQ ?_))
   refine ⟨i + 1, hlt, by omega, ?_⟩
   rw [e10]
   refine zaV 1 _ i 0 rfl rfl (by first | exact gs _ | (rw [List.set_set]; exact gs _) | (rw [List.set_set, List.set_set]; exact gs _)) ?_
   refine LeP.g ?_
   (refine z01 (by rfl) ?_ ?_) <;> (repeat' (first | (exact eqA) | (refine shE ?_) | (refine And.intro ?_ ?_))) <;> first | rfl | exact hnx | (simp only [List.set_set]; exact hnx)
  ·have hie : i = es.length := by omega
   subst hie
   have f1 : ¬ (es.length : Int) < ((rwG z1h z0o k es es.length).length : Int) := by omega
   repeat ((try conv => whnf); first | (with_reducible first | refine z0a (fun Qs hN hE hR => ?_) | refine z08 ?_ | refine z00 (fun Qb kN kE kX kR => ?_) | refine z03 ?_ | refine z04 ?_ | refine z09 ?_ | refine z05 ?_ | refine z06 ?_ | (show W _ _ _ (.cond _ _ _) _ _; refine z02 rfl ?_) | (refine hN _ ?_; try clear hN hE hR Qs) | ((first | refine hE _ _ ?_ | refine hR _ ?_); try clear hN hE hR Qs) | ((first | refine kN _ ?_ | refine kE _ ?_ | refine kX _ _ rfl ?_ | refine kR _ ?_); try clear kN kE kX kR Qb)) | (refine z0e f1 ?_) | (refine stpQ ?_))
   rw [List.take_length]
   (refine z01 (by rfl) ?_ ?_) <;> (repeat' (first | (exact eqA) | (refine shE ?_) | (refine And.intro ?_ ?_))) <;> first | rfl | exact z6r _ _ _ _
 ·repeat ((try conv => whnf); first | (with_reducible first | refine z0a (fun Qs hN hE hR => ?_) | refine z08 ?_ | refine z00 (fun Qb kN kE kX kR => ?_) | refine z03 ?_ | refine z04 ?_ | refine z09 ?_ | refine z05 ?_ | refine z06 ?_ | (show W _ _ _ (.cond _ _ _) _ _; refine z02 rfl ?_) | (refine hN _ ?_; try clear hN hE hR Qs) | ((first | refine hE _ _ ?_ | refine hR _ ?_); try clear hN hE hR Qs) | ((first | refine kN _ ?_ | refine kE _ ?_ | refine kX _ _ rfl ?_ | refine kR _ ?_); try clear kN kE kX kR Qb)) | (refine stpQ ?_))
  (refine z07 (by rfl) ?_ ?_ (by rfl)) <;> (repeat' (first | (exact eqA) | (refine shE ?_) | (refine And.intro ?_ ?_)))
theorem z7z (es : List (List T)) (hw : za9 es) (k : Nat) (hk : 0 < k) (hb : k + cnG z0o es ≤ 1000000000000000000) (hl : (es.length : Int) ≤ 1000000000) :
 CT Tryz.prog 53 [.deep 1 (mkG z1h z0o k es) []] [.ref 1, .int .i64 (k : Int)] (.int .i64 ((k + cnG z0o es : Nat) : Int)) [.deep 1 (mkG z1h z0o k es) []] := by
 have hlen := z2h z1h z0o k es
 refine z0b z1j 2 rfl Tryz.func53 rfl rfl rfl ?_
 conv => arg 6; whnf
 repeat ((try conv => whnf); first | (with_reducible first | refine z0a (fun Qs hN hE hR => ?_) | refine z08 ?_ | refine z00 (fun Qb kN kE kX kR => ?_) | refine z03 ?_ | refine z04 ?_ | refine z09 ?_ | refine z05 ?_ | refine z06 ?_ | (show W _ _ _ (.cond _ _ _) _ _; refine z02 rfl ?_) | (refine hN _ ?_; try clear hN hE hR Qs) | ((first | refine hE _ _ ?_ | refine hR _ ?_); try clear hN hE hR Qs) | ((first | refine kN _ ?_ | refine kE _ ?_ | refine kX _ _ rfl ?_ | refine kR _ ?_); try clear kN kE kX kR Qb)) | (refine stpQ ?_))
 refine z72 0 ⟨[(1, .int .i64 ((k + cnG z0o es : Nat) : Int))], [(1, some (.deep 1 (mkG z1h z0o k es) []))], 2⟩ Nat (fun i => ⟨[(0, .ref 1), (1, .int .i64 ((k + cnG z0o (es.take i) : Nat) : Int)), (5, .int .i64 (i : Int))], [(1, some (.deep 1 (mkG z1h z0o k es) []))], 2⟩) (fun i => i ≤ es.length) (fun i => es.length - i) 0 (Nat.zero_le _) ?_ ?_ ?_
 ·(refine z01 (by rfl) ?_ ?_) <;> (repeat' (first | (exact eqA) | (refine shE ?_) | (refine And.intro ?_ ?_))) <;> first | rfl | decide
 ·intro i hi
  by_cases hlt : i < es.length
  ·have f1 : (i : Int) < ((mkG z1h z0o k es).length : Int) := by omega
   have i1 : i < (mkG z1h z0o k es).length := by omega
   have hcl := z5z z0o (es := es) (i := i + 1)
   obtain ⟨o0, he, w0, l0⟩ := hw _ (List.getElem_mem hlt)
   have g : (mkG z1h z0o k es)[i]? = some [.own 2 (mkG elLf szLf ((k + cnG z0o (es.take i))) o0)] := by
    have := z8d z1h z0o k hlt
    rw [he] at this
    exact this
   have hcn : cnG z0o (es.take (i + 1)) = cnG z0o (es.take i) + (0 + cnG szLf o0) := by
    have := z2I z0o hlt
    rw [he] at this
    exact this
   have hnp : 0 < k + cnG z0o (es.take i) := by omega
   have hnb : k + cnG z0o (es.take i) + (0 + cnG szLf o0) ≤ 1000000000000000000 := by omega
   have e11 : k + cnG z0o (es.take (i + 1)) = k + cnG z0o (es.take i) + (0 + cnG szLf o0) := by omega
   generalize mkG z1h z0o k es = R at *
   generalize k + cnG z0o (es.take i) = n at *
   clear hb hk hcn hcl he hw
   have e10 : k + cnG z0o (es.take (i + 1)) = (n + cnG szLf o0) := by omega
   have d0 := z8p o0 (n) (by omega) (by omega) l0
   have z0 : ¬ ((n + cnG szLf o0 : Nat) : Int) < 0 := by omega
   have h1 : ∀ X, i < (R.set i X).length := fun X => by rw [List.length_set]; exact i1
   have gs : ∀ X, (R.set i X)[i]? = some X := fun X => by rw [List.getElem?_set_self i1]
   have hnx := z35 g
   generalize mkG elLf szLf (n) o0 = p0 at *
   repeat ((try conv => whnf); first | (with_reducible first | refine z0a (fun Qs hN hE hR => ?_) | refine z08 ?_ | refine z00 (fun Qb kN kE kX kR => ?_) | refine z03 ?_ | refine z04 ?_ | refine z09 ?_ | refine z05 ?_ | refine z06 ?_ | (show W _ _ _ (.cond _ _ _) _ _; refine z02 rfl ?_) | (refine hN _ ?_; try clear hN hE hR Qs) | ((first | refine hE _ _ ?_ | refine hR _ ?_); try clear hN hE hR Qs) | ((first | refine kN _ ?_ | refine kE _ ?_ | refine kX _ _ rfl ?_ | refine kR _ ?_); try clear kN kE kX kR Qb)) | (refine z0d f1 ?_) | (refine And.intro i1 ?_) | (refine And.intro (h1 _) ?_) | (refine Exists.intro _ (And.intro g ?_)) | (refine Exists.intro _ (And.intro (gs _) ?_)) | (refine z0e z0 ?_) | (refine ccB ([_]) (d0) ?_) | (refine And.intro (by kernel_rfl) ?_) | (rw [List.set_set]) | (refine stpQ ?_))
   refine ⟨i + 1, hlt, by omega, ?_⟩
   rw [e10]
   refine zaV 1 _ i 0 rfl rfl (by first | exact gs _ | (rw [List.set_set]; exact gs _) | (rw [List.set_set, List.set_set]; exact gs _)) ?_
   refine LeP.g ?_
   (refine z01 (by rfl) ?_ ?_) <;> (repeat' (first | (exact eqA) | (refine shE ?_) | (refine And.intro ?_ ?_))) <;> first | rfl | exact hnx | (simp only [List.set_set]; exact hnx)
  ·have hie : i = es.length := by omega
   subst hie
   have f1 : ¬ (es.length : Int) < ((mkG z1h z0o k es).length : Int) := by omega
   repeat ((try conv => whnf); first | (with_reducible first | refine z0a (fun Qs hN hE hR => ?_) | refine z08 ?_ | refine z00 (fun Qb kN kE kX kR => ?_) | refine z03 ?_ | refine z04 ?_ | refine z09 ?_ | refine z05 ?_ | refine z06 ?_ | (show W _ _ _ (.cond _ _ _) _ _; refine z02 rfl ?_) | (refine hN _ ?_; try clear hN hE hR Qs) | ((first | refine hE _ _ ?_ | refine hR _ ?_); try clear hN hE hR Qs) | ((first | refine kN _ ?_ | refine kE _ ?_ | refine kX _ _ rfl ?_ | refine kR _ ?_); try clear kN kE kX kR Qb)) | (refine z0e f1 ?_) | (refine stpQ ?_))
   rw [List.take_length]
   (refine z01 (by rfl) ?_ ?_) <;> (repeat' (first | (exact eqA) | (refine shE ?_) | (refine And.intro ?_ ?_))) <;> first | rfl | exact z6r _ _ _ _
 ·repeat ((try conv => whnf); first | (with_reducible first | refine z0a (fun Qs hN hE hR => ?_) | refine z08 ?_ | refine z00 (fun Qb kN kE kX kR => ?_) | refine z03 ?_ | refine z04 ?_ | refine z09 ?_ | refine z05 ?_ | refine z06 ?_ | (show W _ _ _ (.cond _ _ _) _ _; refine z02 rfl ?_) | (refine hN _ ?_; try clear hN hE hR Qs) | ((first | refine hE _ _ ?_ | refine hR _ ?_); try clear hN hE hR Qs) | ((first | refine kN _ ?_ | refine kE _ ?_ | refine kX _ _ rfl ?_ | refine kR _ ?_); try clear kN kE kX kR Qb)) | (refine stpQ ?_))
  (refine z07 (by rfl) ?_ ?_ (by rfl)) <;> (repeat' (first | (exact eqA) | (refine shE ?_) | (refine And.intro ?_ ?_)))
end
section
attribute [local irreducible] z0s z0t z0x AnsP LeP W
end
section
attribute [local irreducible] z0s z0t z0x AnsP LeP W
end
end Go.Proofs.YtnhcfmmdaihneaaGreatDoor
