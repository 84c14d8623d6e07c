/- Functions by content: flat rows are marked and looked at by the exact laws. Functions by content: rows that own rows are marked and looked at by the exact laws. Functions by content: structs are marked and looked at by the exact laws. Functions by content: complete proofs are marked and looked at by the exact laws. -/
import Derived.Test.YtnhcfmmdaihneaaVe
import Derived.Test.YtnhcfmmdaihneaaXt
import Derived.Test.YtnhcfmmdaihneaaPlainM
import Derived.Test.YtnhcfmmdaihneaaPs
namespace Go.Proofs.Ytnhcfmmdaihneaa
set_option maxRecDepth 100000
set_option maxHeartbeats 4000000
set_option linter.unusedVariables false
set_option linter.unusedSimpArgs false
set_option linter.unusedSectionVars false
open Go.RowKit Pl
theorem zd8 : ∀ (n : Nat) (out : Bs), (decG n out).length ≤ out.length + n := by
 intro n
 induction n using Nat.strongRecOn with
 | _ n ih =>
   intro out
   by_cases h : n = 0
   ·subst h; rw [z6Q]; omega
   ·rw [z6R h]
    have h1 : n / 10 < n := Nat.div_lt_self (by omega) (by omega)
    have := ih (n / 10) h1 (UInt8.ofNat (48 + n % 10) :: out)
    rw [List.length_cons] at this
    omega
def elSt (k : Nat) (_ : List T) : List T := [.str (z0G (k))]
def szSt (_ : List T) : Nat := 1
def WfSt (es : List (List T)) : Prop := ∀ e ∈ es, ∃ a0 : Bs, e = [.str a0]
def elLf (k : Nat) (_ : List T) : List T := [.str (z0G (k)), .str (z0G (k + 1))]
def szLf (_ : List T) : Nat := 2
def WfLf (es : List (List T)) : Prop := ∀ e ∈ es, ∃ a0 : Bs, ∃ a1 : Bs, e = [.str a0, .str a1]
section
attribute [local irreducible] z0m z0o z0s AnsP LeP W
theorem z1C (n : Nat) (hn : 0 < n) (hb : n ≤ 1000000000000000000) : CT Try.prog 63 [] [.int .i64 (n : Int)] (.str (z0G n)) [] := by
 have f0 : ¬ (n : Int) ≤ 0 := by omega
 have hm : z0G n = [109] ++ decG n [] := by rw [z0G, if_neg (by omega)]; rfl
 rw [hm]
 clear hm
 refine z01 z0j 1 rfl Try.func63 rfl rfl rfl ?_
 conv => arg 6; whnf
 repeat ((try conv => whnf); first | (with_reducible first | refine z0c (fun Qs hN hE hR => ?_) | refine z0a ?_ | refine z02 (fun Qb kN kE kX kR => ?_) | refine z04 ?_ | refine z05 ?_ | refine z0b ?_ | refine z06 ?_ | refine z07 ?_ | (show W _ _ _ (.cond _ _ _) _ _; refine z03 rfl ?_) | (refine hN _ ?_; try clear hN hE hR Qs) | ((first | refine hE _ _ ?_ | refine hR _ ?_); try clear hN hE hR Qs) | ((first | refine kN _ ?_ | refine kE _ ?_ | refine kX _ _ rfl ?_ | refine kR _ ?_); try clear kN kE kX kR Qb)) | (refine z0z f0 ?_) | (refine stpQ ?_))
 refine z1r 0 ⟨[(3, .str (decG n []))], [], 2⟩ (Nat × Bs) (fun x => ⟨[(0, .int .i64 (x.1 : Int)), (3, .str x.2)], [], 2⟩) (fun x => decG x.1 x.2 = decG n [] ∧ (x.2.length : Int) + x.1 ≤ 1000000000000000000) (fun x => x.1) (n, []) ⟨rfl, by simp; omega⟩ ?_ ?_ ?_
 ·(refine z08 (by rfl) ?_ ?_) <;> (repeat' (first | (exact eqA) | (refine shE ?_) | (refine And.intro ?_ ?_))) <;> first | rfl | decide
 ·intro x hx
  obtain ⟨m, out⟩ := x
  have h1 : decG m out = decG n [] := hx.1
  have h2 : (out.length : Int) + m ≤ 1000000000000000000 := hx.2
  clear hx
  by_cases hm : m = 0
  ·subst hm
   rw [z6Q] at h1
   repeat ((try conv => whnf); first | (with_reducible first | refine z0c (fun Qs hN hE hR => ?_) | refine z0a ?_ | refine z02 (fun Qb kN kE kX kR => ?_) | refine z04 ?_ | refine z05 ?_ | refine z0b ?_ | refine z06 ?_ | refine z07 ?_ | (show W _ _ _ (.cond _ _ _) _ _; refine z03 rfl ?_) | (refine hN _ ?_; try clear hN hE hR Qs) | ((first | refine hE _ _ ?_ | refine hR _ ?_); try clear hN hE hR Qs) | ((first | refine kN _ ?_ | refine kE _ ?_ | refine kX _ _ rfl ?_ | refine kR _ ?_); try clear kN kE kX kR Qb)) | (refine stpQ ?_))
   (refine z08 (by rfl) ?_ ?_) <;> (repeat' (first | (exact eqA) | (refine shE ?_) | (refine And.intro ?_ ?_))) <;> exact h1
  ·have hd : m / 10 < m := Nat.div_lt_self (by omega) (by omega)
   have fm : (m : Int) > 0 := by omega
   repeat ((try conv => whnf); first | (with_reducible first | refine z0c (fun Qs hN hE hR => ?_) | refine z0a ?_ | refine z02 (fun Qb kN kE kX kR => ?_) | refine z04 ?_ | refine z05 ?_ | refine z0b ?_ | refine z06 ?_ | refine z07 ?_ | (show W _ _ _ (.cond _ _ _) _ _; refine z03 rfl ?_) | (refine hN _ ?_; try clear hN hE hR Qs) | ((first | refine hE _ _ ?_ | refine hR _ ?_); try clear hN hE hR Qs) | ((first | refine kN _ ?_ | refine kE _ ?_ | refine kX _ _ rfl ?_ | refine kR _ ?_); try clear kN kE kX kR Qb)) | (refine z0Q fm ?_) | (refine r_remn (n := nat_lit 10) ?_) | (refine w_addl (by omega) ?_) | (refine w_u8 ?_) | (refine w_quon (n := nat_lit 10) (by omega) ?_) | (refine Exists.intro [UInt8.ofNat (48 + m % 10)] (And.intro rfl ?_)) | (refine And.intro (by simp only [List.length_cons, List.length_nil]; omega) ?_) | (refine stpQ ?_))
   refine ⟨(m / 10, UInt8.ofNat (48 + m % 10) :: out), ⟨by show decG (m / 10) _ = _; rw [← h1, z6R hm], ?_⟩, hd, ?_⟩
   ·show (((UInt8.ofNat (48 + m % 10) :: out).length : Nat) : Int) + ((m / 10 : Nat) : Int) ≤ 1000000000000000000
    rw [List.length_cons]; omega
   ·(refine z08 (by rfl) ?_ ?_) <;> (repeat' (first | (exact eqA) | (refine shE ?_) | (refine And.intro ?_ ?_))) <;> rfl
 ·have hle : (decG n []).length ≤ n := by have := zd8 n []; simpa using this
  generalize decG n [] = o at *
  repeat ((try conv => whnf); first | (with_reducible first | refine z0c (fun Qs hN hE hR => ?_) | refine z0a ?_ | refine z02 (fun Qb kN kE kX kR => ?_) | refine z04 ?_ | refine z05 ?_ | refine z0b ?_ | refine z06 ?_ | refine z07 ?_ | (show W _ _ _ (.cond _ _ _) _ _; refine z03 rfl ?_) | (refine hN _ ?_; try clear hN hE hR Qs) | ((first | refine hE _ _ ?_ | refine hR _ ?_); try clear hN hE hR Qs) | ((first | refine kN _ ?_ | refine kE _ ?_ | refine kX _ _ rfl ?_ | refine kR _ ?_); try clear kN kE kX kR Qb)) | (refine And.intro (by simp only [List.length_cons, List.length_nil]; omega) ?_) | (refine stpQ ?_))
  (refine z00 (by rfl) ?_ ?_ (by rfl)) <;> (repeat' (first | (exact eqA) | (refine shE ?_) | (refine And.intro ?_ ?_)))
theorem z0J (es : List (List T)) (hw : WfSt es) (k : Nat) (hk : 0 < k) (hb : k + cnG szSt es ≤ 1000000000000000000) (hl : (es.length : Int) ≤ 1000000000) :
 CT Try.prog 32 [.deep 1 es []] [.ref 1, .int .i64 (k : Int)] (.int .i64 ((k + cnG szSt es : Nat) : Int)) [.deep 1 (mkG elSt szSt k es) []] := by
 refine z01 z0j 2 rfl Try.func32 rfl rfl rfl ?_
 conv => arg 6; whnf
 repeat ((try conv => whnf); first | (with_reducible first | refine z0c (fun Qs hN hE hR => ?_) | refine z0a ?_ | refine z02 (fun Qb kN kE kX kR => ?_) | refine z04 ?_ | refine z05 ?_ | refine z0b ?_ | refine z06 ?_ | refine z07 ?_ | (show W _ _ _ (.cond _ _ _) _ _; refine z03 rfl ?_) | (refine hN _ ?_; try clear hN hE hR Qs) | ((first | refine hE _ _ ?_ | refine hR _ ?_); try clear hN hE hR Qs) | ((first | refine kN _ ?_ | refine kE _ ?_ | refine kX _ _ rfl ?_ | refine kR _ ?_); try clear kN kE kX kR Qb)) | (refine stpQ ?_))
 refine z1r 0 ⟨[(1, .int .i64 ((k + cnG szSt es : Nat) : Int))], [(1, some (.deep 1 (mkG elSt szSt k es) []))], 2⟩ Nat (fun i => ⟨[(0, .ref 1), (1, .int .i64 ((k + cnG szSt (es.take i) : Nat) : Int)), (5, .int .i64 (i : Int))], [(1, some (.deep 1 (rwG elSt szSt k es i) []))], 2⟩) (fun i => i ≤ es.length) (fun i => es.length - i) 0 (Nat.zero_le _) ?_ ?_ ?_
 ·(refine z08 (by rfl) ?_ ?_) <;> (repeat' (first | (exact eqA) | (refine shE ?_) | (refine And.intro ?_ ?_))) <;> first | rfl | decide
 ·intro i hi
  have hlen := z84 elSt szSt (k := k) hi
  by_cases hlt : i < es.length
  ·have f1 : (i : Int) < ((rwG elSt szSt k es i).length : Int) := by omega
   have i1 : i < (rwG elSt szSt k es i).length := by omega
   have g := zaT elSt szSt (k := k) hlt
   have hnx : (rwG elSt szSt k es i).set i [.str (z0G ((k + cnG szSt (es.take i))))] = rwG elSt szSt k es (i + 1) := z6b elSt szSt (k := k) hlt
   have hcn : cnG szSt (es.take (i + 1)) = cnG szSt (es.take i) + 1 := z2O szSt hlt
   have hcl := z5q szSt (es := es) (i := i + 1)
   have e10 : k + cnG szSt (es.take (i + 1)) = (k + cnG szSt (es.take i)) + 1 := by omega
   obtain ⟨a0, he⟩ := hw _ (List.getElem_mem hlt)
   rw [he] at g
   have hnp : 0 < k + cnG szSt (es.take i) := by omega
   have hnb : k + cnG szSt (es.take i) + 1 ≤ 1000000000000000000 := by omega
   generalize rwG elSt szSt k es i = R at *
   generalize k + cnG szSt (es.take i) = n at *
   clear hb hk hcn hcl he hw
   have m0 := z1C (n) (by omega) (by omega)
   generalize z0G (n) = t0 at *
   have h1 : ∀ X, i < (R.set i X).length := fun X => by rw [List.length_set]; exact i1
   have gs : ∀ X, (R.set i X)[i]? = some X := fun X => by rw [List.getElem?_set_self i1]
   repeat ((try conv => whnf); first | (with_reducible first | refine z0c (fun Qs hN hE hR => ?_) | refine z0a ?_ | refine z02 (fun Qb kN kE kX kR => ?_) | refine z04 ?_ | refine z05 ?_ | refine z0b ?_ | refine z06 ?_ | refine z07 ?_ | (show W _ _ _ (.cond _ _ _) _ _; refine z03 rfl ?_) | (refine hN _ ?_; try clear hN hE hR Qs) | ((first | refine hE _ _ ?_ | refine hR _ ?_); try clear hN hE hR Qs) | ((first | refine kN _ ?_ | refine kE _ ?_ | refine kX _ _ rfl ?_ | refine kR _ ?_); try clear kN kE kX kR Qb)) | (refine z0Q f1 ?_) | (refine And.intro i1 ?_) | (refine And.intro (h1 _) ?_) | (refine Exists.intro _ (And.intro g ?_)) | (refine Exists.intro _ (And.intro (gs _) ?_)) | (refine ccA ([]) (m0) ?_) | (refine And.intro (by kernel_rfl) ?_) | (rw [List.set_set]) | (refine stpQ ?_))
   refine ⟨i + 1, hlt, by omega, ?_⟩
   rw [e10]
   (refine z08 (by rfl) ?_ ?_) <;> (repeat' (first | (exact eqA) | (refine shE ?_) | (refine And.intro ?_ ?_))) <;> first | rfl | exact hnx | (rw [List.set_set]; exact hnx)
  ·have hie : i = es.length := by omega
   subst hie
   have f1 : ¬ (es.length : Int) < ((rwG elSt szSt k es es.length).length : Int) := by omega
   repeat ((try conv => whnf); first | (with_reducible first | refine z0c (fun Qs hN hE hR => ?_) | refine z0a ?_ | refine z02 (fun Qb kN kE kX kR => ?_) | refine z04 ?_ | refine z05 ?_ | refine z0b ?_ | refine z06 ?_ | refine z07 ?_ | (show W _ _ _ (.cond _ _ _) _ _; refine z03 rfl ?_) | (refine hN _ ?_; try clear hN hE hR Qs) | ((first | refine hE _ _ ?_ | refine hR _ ?_); try clear hN hE hR Qs) | ((first | refine kN _ ?_ | refine kE _ ?_ | refine kX _ _ rfl ?_ | refine kR _ ?_); try clear kN kE kX kR Qb)) | (refine z0z f1 ?_) | (refine stpQ ?_))
   rw [List.take_length]
   (refine z08 (by rfl) ?_ ?_) <;> (repeat' (first | (exact eqA) | (refine shE ?_) | (refine And.intro ?_ ?_))) <;> first | rfl | exact z6a _ _ _ _
 ·repeat ((try conv => whnf); first | (with_reducible first | refine z0c (fun Qs hN hE hR => ?_) | refine z0a ?_ | refine z02 (fun Qb kN kE kX kR => ?_) | refine z04 ?_ | refine z05 ?_ | refine z0b ?_ | refine z06 ?_ | refine z07 ?_ | (show W _ _ _ (.cond _ _ _) _ _; refine z03 rfl ?_) | (refine hN _ ?_; try clear hN hE hR Qs) | ((first | refine hE _ _ ?_ | refine hR _ ?_); try clear hN hE hR Qs) | ((first | refine kN _ ?_ | refine kE _ ?_ | refine kX _ _ rfl ?_ | refine kR _ ?_); try clear kN kE kX kR Qb)) | (refine stpQ ?_))
  (refine z00 (by rfl) ?_ ?_ (by rfl)) <;> (repeat' (first | (exact eqA) | (refine shE ?_) | (refine And.intro ?_ ?_)))
theorem z0K (es : List (List T)) (k : Nat) (hk : 0 < k) (hb : k + cnG szSt es ≤ 1000000000000000000) (hl : (es.length : Int) ≤ 1000000000) :
 CT Try.prog 36 [.deep 1 (mkG elSt szSt k es) []] [.ref 1, .int .i64 (k : Int)] (.int .i64 ((k + cnG szSt es : Nat) : Int)) [.deep 1 (mkG elSt szSt k es) []] := by
 have hlen := z2p elSt szSt k es
 refine z01 z0j 2 rfl Try.func36 rfl rfl rfl ?_
 conv => arg 6; whnf
 repeat ((try conv => whnf); first | (with_reducible first | refine z0c (fun Qs hN hE hR => ?_) | refine z0a ?_ | refine z02 (fun Qb kN kE kX kR => ?_) | refine z04 ?_ | refine z05 ?_ | refine z0b ?_ | refine z06 ?_ | refine z07 ?_ | (show W _ _ _ (.cond _ _ _) _ _; refine z03 rfl ?_) | (refine hN _ ?_; try clear hN hE hR Qs) | ((first | refine hE _ _ ?_ | refine hR _ ?_); try clear hN hE hR Qs) | ((first | refine kN _ ?_ | refine kE _ ?_ | refine kX _ _ rfl ?_ | refine kR _ ?_); try clear kN kE kX kR Qb)) | (refine stpQ ?_))
 refine z3N Nat (fun i => ⟨[(0, .ref 1), (1, .int .i64 ((k + cnG szSt (es.take i) : Nat) : Int)), (5, .int .i64 (i : Int))], [(1, some (.deep 1 (mkG elSt szSt k es) []))], 2⟩) (fun i => i ≤ es.length) (fun i => es.length - i) 0 (Nat.zero_le _) ?_ ?_
 ·(refine z08 (by rfl) ?_ ?_) <;> (repeat' (first | (exact eqA) | (refine shE ?_) | (refine And.intro ?_ ?_))) <;> first | rfl | decide
 ·intro Q1 hQ1 i hi
  by_cases hlt : i < es.length
  ·have f1 : (i : Int) < ((mkG elSt szSt k es).length : Int) := by omega
   have i1 : i < (mkG elSt szSt k es).length := by omega
   have g : (mkG elSt szSt k es)[i]? = some [.str (z0G ((k + cnG szSt (es.take i))))] := z83 elSt szSt k hlt
   have hcn : cnG szSt (es.take (i + 1)) = cnG szSt (es.take i) + 1 := z2O szSt hlt
   have hcl := z5q szSt (es := es) (i := i + 1)
   have e10 : k + cnG szSt (es.take (i + 1)) = (k + cnG szSt (es.take i)) + 1 := by omega
   have hnp : 0 < k + cnG szSt (es.take i) := by omega
   have hnb : k + cnG szSt (es.take i) + 1 ≤ 1000000000000000000 := by omega
   generalize mkG elSt szSt k es = R at *
   generalize k + cnG szSt (es.take i) = n at *
   clear hb hk hcn hcl
   have m0 := z1C (n) (by omega) (by omega)
   generalize z0G (n) = t0 at *
   have r0 : t0 = t0 := rfl
   repeat ((try conv => whnf); first | (with_reducible first | refine z0c (fun Qs hN hE hR => ?_) | refine z0a ?_ | refine z02 (fun Qb kN kE kX kR => ?_) | refine z04 ?_ | refine z05 ?_ | refine z0b ?_ | refine z06 ?_ | refine z07 ?_ | (show W _ _ _ (.cond _ _ _) _ _; refine z03 rfl ?_) | (refine hN _ ?_; try clear hN hE hR Qs) | ((first | refine hE _ _ ?_ | refine hR _ ?_); try clear hN hE hR Qs) | ((first | refine kN _ ?_ | refine kE _ ?_ | refine kX _ _ rfl ?_ | refine kR _ ?_); try clear kN kE kX kR Qb)) | (refine z0Q f1 ?_) | (refine And.intro i1 ?_) | (refine Exists.intro _ (And.intro g ?_)) | (refine ccA ([]) (m0) ?_) | (refine z25 r0 ?_) | (refine And.intro (by kernel_rfl) ?_) | (refine stpQ ?_))
   refine ⟨i + 1, hlt, by omega, ?_⟩
   rw [e10]
   (refine z08 (by rfl) ?_ ?_) <;> (repeat' (first | (exact eqA) | (refine shE ?_) | (refine And.intro ?_ ?_)))
  ·have hie : i = es.length := by omega
   subst hie
   have f1 : ¬ (es.length : Int) < ((mkG elSt szSt k es).length : Int) := by omega
   repeat ((try conv => whnf); first | (with_reducible first | refine z0c (fun Qs hN hE hR => ?_) | refine z0a ?_ | refine z02 (fun Qb kN kE kX kR => ?_) | refine z04 ?_ | refine z05 ?_ | refine z0b ?_ | refine z06 ?_ | refine z07 ?_ | (show W _ _ _ (.cond _ _ _) _ _; refine z03 rfl ?_) | (refine hN _ ?_; try clear hN hE hR Qs) | ((first | refine hE _ _ ?_ | refine hR _ ?_); try clear hN hE hR Qs) | ((first | refine kN _ ?_ | refine kE _ ?_ | refine kX _ _ rfl ?_ | refine kR _ ?_); try clear kN kE kX kR Qb)) | (refine z0z f1 ?_) | (refine stpQ ?_))
   refine hQ1 _ _ ?_
   clear hQ1 Q1
   rw [List.take_length]
   repeat ((try conv => whnf); first | (with_reducible first | refine z0c (fun Qs hN hE hR => ?_) | refine z0a ?_ | refine z02 (fun Qb kN kE kX kR => ?_) | refine z04 ?_ | refine z05 ?_ | refine z0b ?_ | refine z06 ?_ | refine z07 ?_ | (show W _ _ _ (.cond _ _ _) _ _; refine z03 rfl ?_) | (refine hN _ ?_; try clear hN hE hR Qs) | ((first | refine hE _ _ ?_ | refine hR _ ?_); try clear hN hE hR Qs) | ((first | refine kN _ ?_ | refine kE _ ?_ | refine kX _ _ rfl ?_ | refine kR _ ?_); try clear kN kE kX kR Qb)) | (refine stpQ ?_))
   (refine z00 (by rfl) ?_ ?_ (by rfl)) <;> (repeat' (first | (exact eqA) | (refine shE ?_) | (refine And.intro ?_ ?_)))
theorem z85 (es : List (List T)) (hw : WfLf es) (k : Nat) (hk : 0 < k) (hb : k + cnG szLf es ≤ 1000000000000000000) (hl : (es.length : Int) ≤ 1000000000) :
 CT Try.prog 62 [.deep 2 es []] [.ref 1, .int .i64 (k : Int)] (.int .i64 ((k + cnG szLf es : Nat) : Int)) [.deep 2 (mkG elLf szLf k es) []] := by
 refine z01 z0j 2 rfl Try.func62 rfl rfl rfl ?_
 conv => arg 6; whnf
 repeat ((try conv => whnf); first | (with_reducible first | refine z0c (fun Qs hN hE hR => ?_) | refine z0a ?_ | refine z02 (fun Qb kN kE kX kR => ?_) | refine z04 ?_ | refine z05 ?_ | refine z0b ?_ | refine z06 ?_ | refine z07 ?_ | (show W _ _ _ (.cond _ _ _) _ _; refine z03 rfl ?_) | (refine hN _ ?_; try clear hN hE hR Qs) | ((first | refine hE _ _ ?_ | refine hR _ ?_); try clear hN hE hR Qs) | ((first | refine kN _ ?_ | refine kE _ ?_ | refine kX _ _ rfl ?_ | refine kR _ ?_); try clear kN kE kX kR Qb)) | (refine stpQ ?_))
 refine z1r 0 ⟨[(1, .int .i64 ((k + cnG szLf es : Nat) : Int))], [(1, some (.deep 2 (mkG elLf szLf k es) []))], 2⟩ Nat (fun i => ⟨[(0, .ref 1), (1, .int .i64 ((k + cnG szLf (es.take i) : Nat) : Int)), (5, .int .i64 (i : Int))], [(1, some (.deep 2 (rwG elLf szLf k es i) []))], 2⟩) (fun i => i ≤ es.length) (fun i => es.length - i) 0 (Nat.zero_le _) ?_ ?_ ?_
 ·(refine z08 (by rfl) ?_ ?_) <;> (repeat' (first | (exact eqA) | (refine shE ?_) | (refine And.intro ?_ ?_))) <;> first | rfl | decide
 ·intro i hi
  have hlen := z84 elLf szLf (k := k) hi
  by_cases hlt : i < es.length
  ·have f1 : (i : Int) < ((rwG elLf szLf k es i).length : Int) := by omega
   have i1 : i < (rwG elLf szLf k es i).length := by omega
   have g := zaT elLf szLf (k := k) hlt
   have hnx : (rwG elLf szLf k es i).set i [.str (z0G ((k + cnG szLf (es.take i)))), .str (z0G ((k + cnG szLf (es.take i)) + 1))] = rwG elLf szLf k es (i + 1) := z6b elLf szLf (k := k) hlt
   have hcn : cnG szLf (es.take (i + 1)) = cnG szLf (es.take i) + 2 := z2O szLf hlt
   have hcl := z5q szLf (es := es) (i := i + 1)
   have e10 : k + cnG szLf (es.take (i + 1)) = (k + cnG szLf (es.take i)) + 1 + 1 := by omega
   obtain ⟨a0, a1, he⟩ := hw _ (List.getElem_mem hlt)
   rw [he] at g
   have hnp : 0 < k + cnG szLf (es.take i) := by omega
   have hnb : k + cnG szLf (es.take i) + 2 ≤ 1000000000000000000 := by omega
   generalize rwG elLf szLf k es i = R at *
   generalize k + cnG szLf (es.take i) = n at *
   clear hb hk hcn hcl he hw
   have m0 := z1C (n) (by omega) (by omega)
   generalize z0G (n) = t0 at *
   have m1 := z1C (n + 1) (by omega) (by omega)
   generalize z0G (n + 1) = t1 at *
   have h1 : ∀ X, i < (R.set i X).length := fun X => by rw [List.length_set]; exact i1
   have gs : ∀ X, (R.set i X)[i]? = some X := fun X => by rw [List.getElem?_set_self i1]
   repeat ((try conv => whnf); first | (with_reducible first | refine z0c (fun Qs hN hE hR => ?_) | refine z0a ?_ | refine z02 (fun Qb kN kE kX kR => ?_) | refine z04 ?_ | refine z05 ?_ | refine z0b ?_ | refine z06 ?_ | refine z07 ?_ | (show W _ _ _ (.cond _ _ _) _ _; refine z03 rfl ?_) | (refine hN _ ?_; try clear hN hE hR Qs) | ((first | refine hE _ _ ?_ | refine hR _ ?_); try clear hN hE hR Qs) | ((first | refine kN _ ?_ | refine kE _ ?_ | refine kX _ _ rfl ?_ | refine kR _ ?_); try clear kN kE kX kR Qb)) | (refine z0Q f1 ?_) | (refine And.intro i1 ?_) | (refine And.intro (h1 _) ?_) | (refine Exists.intro _ (And.intro g ?_)) | (refine Exists.intro _ (And.intro (gs _) ?_)) | (refine ccA ([]) (m0) ?_) | (refine ccA ([]) (m1) ?_) | (refine And.intro (by kernel_rfl) ?_) | (rw [List.set_set]) | (refine stpQ ?_))
   refine ⟨i + 1, hlt, by omega, ?_⟩
   rw [e10]
   (refine z08 (by rfl) ?_ ?_) <;> (repeat' (first | (exact eqA) | (refine shE ?_) | (refine And.intro ?_ ?_))) <;> first | rfl | exact hnx | (rw [List.set_set]; exact hnx)
  ·have hie : i = es.length := by omega
   subst hie
   have f1 : ¬ (es.length : Int) < ((rwG elLf szLf k es es.length).length : Int) := by omega
   repeat ((try conv => whnf); first | (with_reducible first | refine z0c (fun Qs hN hE hR => ?_) | refine z0a ?_ | refine z02 (fun Qb kN kE kX kR => ?_) | refine z04 ?_ | refine z05 ?_ | refine z0b ?_ | refine z06 ?_ | refine z07 ?_ | (show W _ _ _ (.cond _ _ _) _ _; refine z03 rfl ?_) | (refine hN _ ?_; try clear hN hE hR Qs) | ((first | refine hE _ _ ?_ | refine hR _ ?_); try clear hN hE hR Qs) | ((first | refine kN _ ?_ | refine kE _ ?_ | refine kX _ _ rfl ?_ | refine kR _ ?_); try clear kN kE kX kR Qb)) | (refine z0z f1 ?_) | (refine stpQ ?_))
   rw [List.take_length]
   (refine z08 (by rfl) ?_ ?_) <;> (repeat' (first | (exact eqA) | (refine shE ?_) | (refine And.intro ?_ ?_))) <;> first | rfl | exact z6a _ _ _ _
 ·repeat ((try conv => whnf); first | (with_reducible first | refine z0c (fun Qs hN hE hR => ?_) | refine z0a ?_ | refine z02 (fun Qb kN kE kX kR => ?_) | refine z04 ?_ | refine z05 ?_ | refine z0b ?_ | refine z06 ?_ | refine z07 ?_ | (show W _ _ _ (.cond _ _ _) _ _; refine z03 rfl ?_) | (refine hN _ ?_; try clear hN hE hR Qs) | ((first | refine hE _ _ ?_ | refine hR _ ?_); try clear hN hE hR Qs) | ((first | refine kN _ ?_ | refine kE _ ?_ | refine kX _ _ rfl ?_ | refine kR _ ?_); try clear kN kE kX kR Qb)) | (refine stpQ ?_))
  (refine z00 (by rfl) ?_ ?_ (by rfl)) <;> (repeat' (first | (exact eqA) | (refine shE ?_) | (refine And.intro ?_ ?_)))
theorem z86 (es : List (List T)) (k : Nat) (hk : 0 < k) (hb : k + cnG szLf es ≤ 1000000000000000000) (hl : (es.length : Int) ≤ 1000000000) :
 CT Try.prog 65 [.deep 2 (mkG elLf szLf k es) []] [.ref 1, .int .i64 (k : Int)] (.int .i64 ((k + cnG szLf es : Nat) : Int)) [.deep 2 (mkG elLf szLf k es) []] := by
 have hlen := z2p elLf szLf k es
 refine z01 z0j 2 rfl Try.func65 rfl rfl rfl ?_
 conv => arg 6; whnf
 repeat ((try conv => whnf); first | (with_reducible first | refine z0c (fun Qs hN hE hR => ?_) | refine z0a ?_ | refine z02 (fun Qb kN kE kX kR => ?_) | refine z04 ?_ | refine z05 ?_ | refine z0b ?_ | refine z06 ?_ | refine z07 ?_ | (show W _ _ _ (.cond _ _ _) _ _; refine z03 rfl ?_) | (refine hN _ ?_; try clear hN hE hR Qs) | ((first | refine hE _ _ ?_ | refine hR _ ?_); try clear hN hE hR Qs) | ((first | refine kN _ ?_ | refine kE _ ?_ | refine kX _ _ rfl ?_ | refine kR _ ?_); try clear kN kE kX kR Qb)) | (refine stpQ ?_))
 refine z3N Nat (fun i => ⟨[(0, .ref 1), (1, .int .i64 ((k + cnG szLf (es.take i) : Nat) : Int)), (5, .int .i64 (i : Int))], [(1, some (.deep 2 (mkG elLf szLf k es) []))], 2⟩) (fun i => i ≤ es.length) (fun i => es.length - i) 0 (Nat.zero_le _) ?_ ?_
 ·(refine z08 (by rfl) ?_ ?_) <;> (repeat' (first | (exact eqA) | (refine shE ?_) | (refine And.intro ?_ ?_))) <;> first | rfl | decide
 ·intro Q1 hQ1 i hi
  by_cases hlt : i < es.length
  ·have f1 : (i : Int) < ((mkG elLf szLf k es).length : Int) := by omega
   have i1 : i < (mkG elLf szLf k es).length := by omega
   have g : (mkG elLf szLf k es)[i]? = some [.str (z0G ((k + cnG szLf (es.take i)))), .str (z0G ((k + cnG szLf (es.take i)) + 1))] := z83 elLf szLf k hlt
   have hcn : cnG szLf (es.take (i + 1)) = cnG szLf (es.take i) + 2 := z2O szLf hlt
   have hcl := z5q szLf (es := es) (i := i + 1)
   have e10 : k + cnG szLf (es.take (i + 1)) = (k + cnG szLf (es.take i)) + 1 + 1 := by omega
   have hnp : 0 < k + cnG szLf (es.take i) := by omega
   have hnb : k + cnG szLf (es.take i) + 2 ≤ 1000000000000000000 := by omega
   generalize mkG elLf szLf k es = R at *
   generalize k + cnG szLf (es.take i) = n at *
   clear hb hk hcn hcl
   have m0 := z1C (n) (by omega) (by omega)
   generalize z0G (n) = t0 at *
   have r0 : t0 = t0 := rfl
   have m1 := z1C (n + 1) (by omega) (by omega)
   generalize z0G (n + 1) = t1 at *
   have r1 : t1 = t1 := rfl
   repeat ((try conv => whnf); first | (with_reducible first | refine z0c (fun Qs hN hE hR => ?_) | refine z0a ?_ | refine z02 (fun Qb kN kE kX kR => ?_) | refine z04 ?_ | refine z05 ?_ | refine z0b ?_ | refine z06 ?_ | refine z07 ?_ | (show W _ _ _ (.cond _ _ _) _ _; refine z03 rfl ?_) | (refine hN _ ?_; try clear hN hE hR Qs) | ((first | refine hE _ _ ?_ | refine hR _ ?_); try clear hN hE hR Qs) | ((first | refine kN _ ?_ | refine kE _ ?_ | refine kX _ _ rfl ?_ | refine kR _ ?_); try clear kN kE kX kR Qb)) | (refine z0Q f1 ?_) | (refine And.intro i1 ?_) | (refine Exists.intro _ (And.intro g ?_)) | (refine ccA ([]) (m0) ?_) | (refine ccA ([]) (m1) ?_) | (refine z25 r0 ?_) | (refine z25 r1 ?_) | (refine And.intro (by kernel_rfl) ?_) | (refine stpQ ?_))
   refine ⟨i + 1, hlt, by omega, ?_⟩
   rw [e10]
   (refine z08 (by rfl) ?_ ?_) <;> (repeat' (first | (exact eqA) | (refine shE ?_) | (refine And.intro ?_ ?_)))
  ·have hie : i = es.length := by omega
   subst hie
   have f1 : ¬ (es.length : Int) < ((mkG elLf szLf k es).length : Int) := by omega
   repeat ((try conv => whnf); first | (with_reducible first | refine z0c (fun Qs hN hE hR => ?_) | refine z0a ?_ | refine z02 (fun Qb kN kE kX kR => ?_) | refine z04 ?_ | refine z05 ?_ | refine z0b ?_ | refine z06 ?_ | refine z07 ?_ | (show W _ _ _ (.cond _ _ _) _ _; refine z03 rfl ?_) | (refine hN _ ?_; try clear hN hE hR Qs) | ((first | refine hE _ _ ?_ | refine hR _ ?_); try clear hN hE hR Qs) | ((first | refine kN _ ?_ | refine kE _ ?_ | refine kX _ _ rfl ?_ | refine kR _ ?_); try clear kN kE kX kR Qb)) | (refine z0z f1 ?_) | (refine stpQ ?_))
   refine hQ1 _ _ ?_
   clear hQ1 Q1
   rw [List.take_length]
   repeat ((try conv => whnf); first | (with_reducible first | refine z0c (fun Qs hN hE hR => ?_) | refine z0a ?_ | refine z02 (fun Qb kN kE kX kR => ?_) | refine z04 ?_ | refine z05 ?_ | refine z0b ?_ | refine z06 ?_ | refine z07 ?_ | (show W _ _ _ (.cond _ _ _) _ _; refine z03 rfl ?_) | (refine hN _ ?_; try clear hN hE hR Qs) | ((first | refine hE _ _ ?_ | refine hR _ ?_); try clear hN hE hR Qs) | ((first | refine kN _ ?_ | refine kE _ ?_ | refine kX _ _ rfl ?_ | refine kR _ ?_); try clear kN kE kX kR Qb)) | (refine stpQ ?_))
   (refine z00 (by rfl) ?_ ?_ (by rfl)) <;> (repeat' (first | (exact eqA) | (refine shE ?_) | (refine And.intro ?_ ?_)))
end
end Go.Proofs.Ytnhcfmmdaihneaa
namespace Go.Proofs.Ytnhcfmmdaihneaa
set_option linter.unusedVariables false
set_option linter.unusedSimpArgs false
set_option linter.unusedSectionVars false
open Go.RowKit Pl
section
attribute [local irreducible] z0m z0o z0s AnsP LeP W
end
section
attribute [local irreducible] z0m z0o z0s AnsP LeP W
end
def elSp (k : Nat) : List T → List T
 | [_, _, .own _ o2, .own _ o3, .own _ o4] => [.int .i64 ((k : Nat) : Int), .int .i64 ((k + 1 : Nat) : Int), .own 1 (mkG elSt szSt (k + 1 + 1) o2), .own 1 (mkG elSt szSt ((k + 1 + 1 + cnG szSt o2)) o3), .own 1 (mkG elSt szSt (((k + 1 + 1 + cnG szSt o2) + cnG szSt o3)) o4)]
 | e => e
def szSp : List T → Nat
 | [_, _, .own _ o2, .own _ o3, .own _ o4] => 2 + cnG szSt o2 + cnG szSt o3 + cnG szSt o4
 | _ => 0
def WfSp (es : List (List T)) : Prop := ∀ e ∈ es, ∃ a0 : Int, ∃ a1 : Int, ∃ o2 : List (List T), ∃ o3 : List (List T), ∃ o4 : List (List T), e = [.int .i64 a0, .int .i64 a1, .own 1 o2, .own 1 o3, .own 1 o4] ∧ WfSt o2 ∧ (o2.length : Int) ≤ 1000000000 ∧ WfSt o3 ∧ (o3.length : Int) ≤ 1000000000 ∧ WfSt o4 ∧ (o4.length : Int) ≤ 1000000000
section
attribute [local irreducible] z0m z0o z0s AnsP LeP W
end
end Go.Proofs.Ytnhcfmmdaihneaa
namespace Go.Proofs.Ytnhcfmmdaihneaa
set_option maxRecDepth 100000
set_option maxHeartbeats 4000000
set_option linter.unusedVariables false
set_option linter.unusedSimpArgs false
set_option linter.unusedSectionVars false
open Go.RowKit Pl
section
attribute [local irreducible] z0m z0o z0s AnsP LeP W
theorem zb0 (a0 : Int) (z1 : List (List T)) (w1 : WfSt z1) (l1 : (z1.length : Int) ≤ 1000000000) (z2 : List (List T)) (w2 : WfSt z2) (l2 : (z2.length : Int) ≤ 1000000000) (z3 : List (List T)) (w3 : WfSt z3) (l3 : (z3.length : Int) ≤ 1000000000) (k : Nat) (hk : 0 < k) (hb : k + cnG szSt z1 + cnG szSt z2 + cnG szSt z3 ≤ 1000000000000000000) :
 CT Try.prog 64 [.deep 1 (z1) [], .deep 1 (z2) [], .deep 1 (z3) []] [.agg [.int .i64 a0, .ref 1, .ref 2, .ref 3], .int .i64 (k : Int)] (.int .i64 ((k + cnG szSt z1 + cnG szSt z2 + cnG szSt z3 : Nat) : Int)) [.deep 1 (mkG elSt szSt (k) z1) [], .deep 1 (mkG elSt szSt (k + cnG szSt z1) z2) [], .deep 1 (mkG elSt szSt (k + cnG szSt z1 + cnG szSt z2) z3) []] := by
 have d0 := z0J z1 w1 (k) (by omega) (by omega) l1
 have d1 := z0J z2 w2 (k + cnG szSt z1) (by omega) (by omega) l2
 have d2 := z0J z3 w3 (k + cnG szSt z1 + cnG szSt z2) (by omega) (by omega) l3
 generalize mkG elSt szSt (k) z1 = p1 at *
 generalize mkG elSt szSt (k + cnG szSt z1) z2 = p2 at *
 generalize mkG elSt szSt (k + cnG szSt z1 + cnG szSt z2) z3 = p3 at *
 refine z01 z0j 4 rfl Try.func64 rfl rfl rfl ?_
 conv => arg 6; whnf
 repeat ((try conv => whnf); first | (with_reducible first | refine z0c (fun Qs hN hE hR => ?_) | refine z0a ?_ | refine z02 (fun Qb kN kE kX kR => ?_) | refine z04 ?_ | refine z05 ?_ | refine z0b ?_ | refine z06 ?_ | refine z07 ?_ | (show W _ _ _ (.cond _ _ _) _ _; refine z03 rfl ?_) | (refine hN _ ?_; try clear hN hE hR Qs) | ((first | refine hE _ _ ?_ | refine hR _ ?_); try clear hN hE hR Qs) | ((first | refine kN _ ?_ | refine kE _ ?_ | refine kX _ _ rfl ?_ | refine kR _ ?_); try clear kN kE kX kR Qb)) | (refine ccB ([_]) (d0) ?_) | (refine ccB ([_]) (d1) ?_) | (refine ccB ([_]) (d2) ?_) | (refine And.intro (by kernel_rfl) ?_) | (refine stpQ ?_))
 (refine z00 (by rfl) ?_ ?_ (by rfl)) <;> (repeat' (first | (exact eqA) | (refine shE ?_) | (refine And.intro ?_ ?_)))
theorem zb1 (a0 : Int) (z1 : List (List T)) (w1 : WfSt z1) (l1 : (z1.length : Int) ≤ 1000000000) (z2 : List (List T)) (w2 : WfSt z2) (l2 : (z2.length : Int) ≤ 1000000000) (z3 : List (List T)) (w3 : WfSt z3) (l3 : (z3.length : Int) ≤ 1000000000) (k : Nat) (hk : 0 < k) (hb : k + cnG szSt z1 + cnG szSt z2 + cnG szSt z3 ≤ 1000000000000000000) :
 CT Try.prog 66 [.deep 1 (mkG elSt szSt (k) z1) [], .deep 1 (mkG elSt szSt (k + cnG szSt z1) z2) [], .deep 1 (mkG elSt szSt (k + cnG szSt z1 + cnG szSt z2) z3) []] [.agg [.int .i64 a0, .ref 1, .ref 2, .ref 3], .int .i64 (k : Int)] (.int .i64 ((k + cnG szSt z1 + cnG szSt z2 + cnG szSt z3 : Nat) : Int)) [.deep 1 (mkG elSt szSt (k) z1) [], .deep 1 (mkG elSt szSt (k + cnG szSt z1) z2) [], .deep 1 (mkG elSt szSt (k + cnG szSt z1 + cnG szSt z2) z3) []] := by
 have d0 := z0K z1 (k) (by omega) (by omega) l1
 have y0 : ¬ ((k + cnG szSt z1 : Nat) : Int) < 0 := by omega
 have d1 := z0K z2 (k + cnG szSt z1) (by omega) (by omega) l2
 have y1 : ¬ ((k + cnG szSt z1 + cnG szSt z2 : Nat) : Int) < 0 := by omega
 have d2 := z0K z3 (k + cnG szSt z1 + cnG szSt z2) (by omega) (by omega) l3
 have y2 : ¬ ((k + cnG szSt z1 + cnG szSt z2 + cnG szSt z3 : Nat) : Int) < 0 := by omega
 generalize mkG elSt szSt (k) z1 = p1 at *
 generalize mkG elSt szSt (k + cnG szSt z1) z2 = p2 at *
 generalize mkG elSt szSt (k + cnG szSt z1 + cnG szSt z2) z3 = p3 at *
 refine z01 z0j 4 rfl Try.func66 rfl rfl rfl ?_
 conv => arg 6; whnf
 repeat ((try conv => whnf); first | (with_reducible first | refine z0c (fun Qs hN hE hR => ?_) | refine z0a ?_ | refine z02 (fun Qb kN kE kX kR => ?_) | refine z04 ?_ | refine z05 ?_ | refine z0b ?_ | refine z06 ?_ | refine z07 ?_ | (show W _ _ _ (.cond _ _ _) _ _; refine z03 rfl ?_) | (refine hN _ ?_; try clear hN hE hR Qs) | ((first | refine hE _ _ ?_ | refine hR _ ?_); try clear hN hE hR Qs) | ((first | refine kN _ ?_ | refine kE _ ?_ | refine kX _ _ rfl ?_ | refine kR _ ?_); try clear kN kE kX kR Qb)) | (refine z0z y0 ?_) | (refine ccB ([_]) (d0) ?_) | (refine z0z y1 ?_) | (refine ccB ([_]) (d1) ?_) | (refine z0z y2 ?_) | (refine ccB ([_]) (d2) ?_) | (refine And.intro (by kernel_rfl) ?_) | (refine stpQ ?_))
 (refine z00 (by rfl) ?_ ?_ (by rfl)) <;> (repeat' (first | (exact eqA) | (refine shE ?_) | (refine And.intro ?_ ?_)))
theorem z9C (a0 : Int) (a1 : Int) (a2 : Bs) (a3 : Bs) (a4 : Int) (z5 : List (List T)) (w5 : WfSt z5) (l5 : (z5.length : Int) ≤ 1000000000) (z6 : List (List T)) (w6 : WfSt z6) (l6 : (z6.length : Int) ≤ 1000000000) (z7 : List (List T)) (w7 : WfSt z7) (l7 : (z7.length : Int) ≤ 1000000000) (k : Nat) (hk : 0 < k) (hb : k + cnG szSt z5 + cnG szSt z6 + cnG szSt z7 ≤ 1000000000000000000) :
 CT Try.prog 33 [.deep 1 (z5) [], .deep 1 (z6) [], .deep 1 (z7) []] [.agg [.int .i64 a0, .int .i64 a1, .str a2, .str a3, .int .i64 a4, .ref 1, .ref 2, .ref 3], .int .i64 (k : Int)] (.int .i64 ((k + cnG szSt z5 + cnG szSt z6 + cnG szSt z7 : Nat) : Int)) [.deep 1 (mkG elSt szSt (k) z5) [], .deep 1 (mkG elSt szSt (k + cnG szSt z5) z6) [], .deep 1 (mkG elSt szSt (k + cnG szSt z5 + cnG szSt z6) z7) []] := by
 have d0 := zb0 a4 z5 w5 l5 z6 w6 l6 z7 w7 l7 (k) (by omega) (by omega)
 generalize mkG elSt szSt (k) z5 = p5 at *
 generalize mkG elSt szSt (k + cnG szSt z5) z6 = p6 at *
 generalize mkG elSt szSt (k + cnG szSt z5 + cnG szSt z6) z7 = p7 at *
 refine z01 z0j 4 rfl Try.func33 rfl rfl rfl ?_
 conv => arg 6; whnf
 repeat ((try conv => whnf); first | (with_reducible first | refine z0c (fun Qs hN hE hR => ?_) | refine z0a ?_ | refine z02 (fun Qb kN kE kX kR => ?_) | refine z04 ?_ | refine z05 ?_ | refine z0b ?_ | refine z06 ?_ | refine z07 ?_ | (show W _ _ _ (.cond _ _ _) _ _; refine z03 rfl ?_) | (refine hN _ ?_; try clear hN hE hR Qs) | ((first | refine hE _ _ ?_ | refine hR _ ?_); try clear hN hE hR Qs) | ((first | refine kN _ ?_ | refine kE _ ?_ | refine kX _ _ rfl ?_ | refine kR _ ?_); try clear kN kE kX kR Qb)) | (refine ccB ([_, _, _]) (d0) ?_) | (refine And.intro (by kernel_rfl) ?_) | (refine stpQ ?_))
 (refine z00 (by rfl) ?_ ?_ (by rfl)) <;> (repeat' (first | (exact eqA) | (refine shE ?_) | (refine And.intro ?_ ?_)))
theorem z9D (a0 : Int) (a1 : Int) (a2 : Bs) (a3 : Bs) (a4 : Int) (z5 : List (List T)) (w5 : WfSt z5) (l5 : (z5.length : Int) ≤ 1000000000) (z6 : List (List T)) (w6 : WfSt z6) (l6 : (z6.length : Int) ≤ 1000000000) (z7 : List (List T)) (w7 : WfSt z7) (l7 : (z7.length : Int) ≤ 1000000000) (k : Nat) (hk : 0 < k) (hb : k + cnG szSt z5 + cnG szSt z6 + cnG szSt z7 ≤ 1000000000000000000) :
 CT Try.prog 37 [.deep 1 (mkG elSt szSt (k) z5) [], .deep 1 (mkG elSt szSt (k + cnG szSt z5) z6) [], .deep 1 (mkG elSt szSt (k + cnG szSt z5 + cnG szSt z6) z7) []] [.agg [.int .i64 a0, .int .i64 a1, .str a2, .str a3, .int .i64 a4, .ref 1, .ref 2, .ref 3], .int .i64 (k : Int)] (.int .i64 ((k + cnG szSt z5 + cnG szSt z6 + cnG szSt z7 : Nat) : Int)) [.deep 1 (mkG elSt szSt (k) z5) [], .deep 1 (mkG elSt szSt (k + cnG szSt z5) z6) [], .deep 1 (mkG elSt szSt (k + cnG szSt z5 + cnG szSt z6) z7) []] := by
 have d0 := zb1 a4 z5 w5 l5 z6 w6 l6 z7 w7 l7 (k) (by omega) (by omega)
 have y0 : ¬ ((k + cnG szSt z5 + cnG szSt z6 + cnG szSt z7 : Nat) : Int) < 0 := by omega
 generalize mkG elSt szSt (k) z5 = p5 at *
 generalize mkG elSt szSt (k + cnG szSt z5) z6 = p6 at *
 generalize mkG elSt szSt (k + cnG szSt z5 + cnG szSt z6) z7 = p7 at *
 refine z01 z0j 4 rfl Try.func37 rfl rfl rfl ?_
 conv => arg 6; whnf
 repeat ((try conv => whnf); first | (with_reducible first | refine z0c (fun Qs hN hE hR => ?_) | refine z0a ?_ | refine z02 (fun Qb kN kE kX kR => ?_) | refine z04 ?_ | refine z05 ?_ | refine z0b ?_ | refine z06 ?_ | refine z07 ?_ | (show W _ _ _ (.cond _ _ _) _ _; refine z03 rfl ?_) | (refine hN _ ?_; try clear hN hE hR Qs) | ((first | refine hE _ _ ?_ | refine hR _ ?_); try clear hN hE hR Qs) | ((first | refine kN _ ?_ | refine kE _ ?_ | refine kX _ _ rfl ?_ | refine kR _ ?_); try clear kN kE kX kR Qb)) | (refine z0z y0 ?_) | (refine ccB ([_, _, _]) (d0) ?_) | (refine And.intro (by kernel_rfl) ?_) | (refine stpQ ?_))
 (refine z00 (by rfl) ?_ ?_ (by rfl)) <;> (repeat' (first | (exact eqA) | (refine shE ?_) | (refine And.intro ?_ ?_)))
theorem z8a  (z0 : List (List T)) (w0 : WfLf z0) (l0 : (z0.length : Int) ≤ 1000000000) (z1 : List (List T)) (w1 : WfSt z1) (l1 : (z1.length : Int) ≤ 1000000000) (k : Nat) (hk : 0 < k) (hb : k + cnG szLf z0 + cnG szSt z1 ≤ 1000000000000000000) :
 CT Try.prog 31 [.deep 2 (z0) [], .deep 1 (z1) []] [.agg [.ref 1, .ref 2], .int .i64 (k : Int)] (.int .i64 ((k + cnG szLf z0 + cnG szSt z1 : Nat) : Int)) [.deep 2 (mkG elLf szLf (k) z0) [], .deep 1 (mkG elSt szSt (k + cnG szLf z0) z1) []] := by
 have d0 := z85 z0 w0 (k) (by omega) (by omega) l0
 have d1 := z0J z1 w1 (k + cnG szLf z0) (by omega) (by omega) l1
 generalize mkG elLf szLf (k) z0 = p0 at *
 generalize mkG elSt szSt (k + cnG szLf z0) z1 = p1 at *
 refine z01 z0j 3 rfl Try.func31 rfl rfl rfl ?_
 conv => arg 6; whnf
 repeat ((try conv => whnf); first | (with_reducible first | refine z0c (fun Qs hN hE hR => ?_) | refine z0a ?_ | refine z02 (fun Qb kN kE kX kR => ?_) | refine z04 ?_ | refine z05 ?_ | refine z0b ?_ | refine z06 ?_ | refine z07 ?_ | (show W _ _ _ (.cond _ _ _) _ _; refine z03 rfl ?_) | (refine hN _ ?_; try clear hN hE hR Qs) | ((first | refine hE _ _ ?_ | refine hR _ ?_); try clear hN hE hR Qs) | ((first | refine kN _ ?_ | refine kE _ ?_ | refine kX _ _ rfl ?_ | refine kR _ ?_); try clear kN kE kX kR Qb)) | (refine ccB ([_]) (d0) ?_) | (refine ccB ([_]) (d1) ?_) | (refine And.intro (by kernel_rfl) ?_) | (refine stpQ ?_))
 (refine z00 (by rfl) ?_ ?_ (by rfl)) <;> (repeat' (first | (exact eqA) | (refine shE ?_) | (refine And.intro ?_ ?_)))
theorem z8b  (z0 : List (List T)) (w0 : WfLf z0) (l0 : (z0.length : Int) ≤ 1000000000) (z1 : List (List T)) (w1 : WfSt z1) (l1 : (z1.length : Int) ≤ 1000000000) (k : Nat) (hk : 0 < k) (hb : k + cnG szLf z0 + cnG szSt z1 ≤ 1000000000000000000) :
 CT Try.prog 35 [.deep 2 (mkG elLf szLf (k) z0) [], .deep 1 (mkG elSt szSt (k + cnG szLf z0) z1) []] [.agg [.ref 1, .ref 2], .int .i64 (k : Int)] (.int .i64 ((k + cnG szLf z0 + cnG szSt z1 : Nat) : Int)) [.deep 2 (mkG elLf szLf (k) z0) [], .deep 1 (mkG elSt szSt (k + cnG szLf z0) z1) []] := by
 have d0 := z86 z0 (k) (by omega) (by omega) l0
 have y0 : ¬ ((k + cnG szLf z0 : Nat) : Int) < 0 := by omega
 have d1 := z0K z1 (k + cnG szLf z0) (by omega) (by omega) l1
 have y1 : ¬ ((k + cnG szLf z0 + cnG szSt z1 : Nat) : Int) < 0 := by omega
 generalize mkG elLf szLf (k) z0 = p0 at *
 generalize mkG elSt szSt (k + cnG szLf z0) z1 = p1 at *
 refine z01 z0j 3 rfl Try.func35 rfl rfl rfl ?_
 conv => arg 6; whnf
 repeat ((try conv => whnf); first | (with_reducible first | refine z0c (fun Qs hN hE hR => ?_) | refine z0a ?_ | refine z02 (fun Qb kN kE kX kR => ?_) | refine z04 ?_ | refine z05 ?_ | refine z0b ?_ | refine z06 ?_ | refine z07 ?_ | (show W _ _ _ (.cond _ _ _) _ _; refine z03 rfl ?_) | (refine hN _ ?_; try clear hN hE hR Qs) | ((first | refine hE _ _ ?_ | refine hR _ ?_); try clear hN hE hR Qs) | ((first | refine kN _ ?_ | refine kE _ ?_ | refine kX _ _ rfl ?_ | refine kR _ ?_); try clear kN kE kX kR Qb)) | (refine z0z y0 ?_) | (refine ccB ([_]) (d0) ?_) | (refine z0z y1 ?_) | (refine ccB ([_]) (d1) ?_) | (refine And.intro (by kernel_rfl) ?_) | (refine stpQ ?_))
 (refine z00 (by rfl) ?_ ?_ (by rfl)) <;> (repeat' (first | (exact eqA) | (refine shE ?_) | (refine And.intro ?_ ?_)))
end
end Go.Proofs.Ytnhcfmmdaihneaa
namespace Go.Proofs.Ytnhcfmmdaihneaa
set_option maxRecDepth 100000
set_option maxHeartbeats 4000000
set_option linter.unusedVariables false
set_option linter.unusedSimpArgs false
set_option linter.unusedSectionVars false
open Go.RowKit Pl
section
attribute [local irreducible] z0m z0o z0s AnsP LeP W
theorem z6i (es : List (List T)) (hw : WfSp es) (k : Nat) (hk : 0 < k) (hb : k + cnG szSp es ≤ 1000000000000000000) (hl : (es.length : Int) ≤ 1000000000) :
 CT Try.prog 34 [.deep 5 (es) []] [.ref 1, .int .i64 (k : Int)] (.int .i64 ((k + cnG szSp es : Nat) : Int)) [.deep 5 (mkG elSp szSp k es) []] := by
 refine z01 z0y 2 rfl Try.func34 rfl rfl rfl ?_
 conv => arg 6; whnf
 repeat ((try conv => whnf); first | (with_reducible first | refine z0c (fun Qs hN hE hR => ?_) | refine z0a ?_ | refine z02 (fun Qb kN kE kX kR => ?_) | refine z04 ?_ | refine z05 ?_ | refine z0b ?_ | refine z06 ?_ | refine z07 ?_ | (show W _ _ _ (.cond _ _ _) _ _; refine z03 rfl ?_) | (refine hN _ ?_; try clear hN hE hR Qs) | ((first | refine hE _ _ ?_ | refine hR _ ?_); try clear hN hE hR Qs) | ((first | refine kN _ ?_ | refine kE _ ?_ | refine kX _ _ rfl ?_ | refine kR _ ?_); try clear kN kE kX kR Qb)) | (refine stpQ ?_))
 refine z6L 0 ⟨[(1, .int .i64 ((k + cnG szSp es : Nat) : Int))], [(1, some (.deep 5 (mkG elSp szSp k es) []))], 2⟩ Nat (fun i => ⟨[(0, .ref 1), (1, .int .i64 ((k + cnG szSp (es.take i) : Nat) : Int)), (5, .int .i64 (i : Int))], [(1, some (.deep 5 (rwG elSp szSp k es i) []))], 2⟩) (fun i => i ≤ es.length) (fun i => es.length - i) 0 (Nat.zero_le _) ?_ ?_ ?_
 ·(refine z08 (by rfl) ?_ ?_) <;> (repeat' (first | (exact eqA) | (refine shE ?_) | (refine And.intro ?_ ?_))) <;> first | rfl | decide
 ·intro i hi
  have hlen := z84 elSp szSp (k := k) hi
  by_cases hlt : i < es.length
  ·have f1 : (i : Int) < ((rwG elSp szSp k es i).length : Int) := by omega
   have i1 : i < (rwG elSp szSp k es i).length := by omega
   have g := zaT elSp szSp (k := k) hlt
   have hcl := z5q szSp (es := es) (i := i + 1)
   obtain ⟨a0, a1, o2, o3, o4, he, w2, l2, w3, l3, w4, l4⟩ := hw _ (List.getElem_mem hlt)
   rw [he] at g
   have hnx : (rwG elSp szSp k es i).set i [.int .i64 (((k + cnG szSp (es.take i)) : Nat) : Int), .int .i64 (((k + cnG szSp (es.take i)) + 1 : Nat) : Int), .own 1 (mkG elSt szSt ((k + cnG szSp (es.take i)) + 1 + 1) o2), .own 1 (mkG elSt szSt (((k + cnG szSp (es.take i)) + 1 + 1 + cnG szSt o2)) o3), .own 1 (mkG elSt szSt ((((k + cnG szSp (es.take i)) + 1 + 1 + cnG szSt o2) + cnG szSt o3)) o4)] = rwG elSp szSp k es (i + 1) := by
    have := z6b elSp szSp (k := k) hlt
    rw [he] at this
    exact this
   have hcn : cnG szSp (es.take (i + 1)) = cnG szSp (es.take i) + (2 + cnG szSt o2 + cnG szSt o3 + cnG szSt o4) := by
    have := z2O szSp hlt
    rw [he] at this
    exact this
   have hnp : 0 < k + cnG szSp (es.take i) := by omega
   have hnb : k + cnG szSp (es.take i) + (2 + cnG szSt o2 + cnG szSt o3 + cnG szSt o4) ≤ 1000000000000000000 := by omega
   have e11 : k + cnG szSp (es.take (i + 1)) = k + cnG szSp (es.take i) + (2 + cnG szSt o2 + cnG szSt o3 + cnG szSt o4) := by omega
   generalize rwG elSp szSp k es i = R at *
   generalize k + cnG szSp (es.take i) = n at *
   clear hb hk hcn hcl he hw
   have e10 : k + cnG szSp (es.take (i + 1)) = (((n + 1 + 1 + cnG szSt o2) + cnG szSt o3) + cnG szSt o4) := by omega
   have d2 := z0J o2 w2 (n + 1 + 1) (by omega) (by omega) l2
   have d3 := z0J o3 w3 ((n + 1 + 1 + cnG szSt o2)) (by omega) (by omega) l3
   have d4 := z0J o4 w4 (((n + 1 + 1 + cnG szSt o2) + cnG szSt o3)) (by omega) (by omega) l4
   have h1 : ∀ X, i < (R.set i X).length := fun X => by rw [List.length_set]; exact i1
   have gs : ∀ X, (R.set i X)[i]? = some X := fun X => by rw [List.getElem?_set_self i1]
   generalize mkG elSt szSt (n + 1 + 1) o2 = p2 at *
   generalize mkG elSt szSt ((n + 1 + 1 + cnG szSt o2)) o3 = p3 at *
   generalize mkG elSt szSt (((n + 1 + 1 + cnG szSt o2) + cnG szSt o3)) o4 = p4 at *
   repeat ((try conv => whnf); first | (with_reducible first | refine z0c (fun Qs hN hE hR => ?_) | refine z0a ?_ | refine z02 (fun Qb kN kE kX kR => ?_) | refine z04 ?_ | refine z05 ?_ | refine z0b ?_ | refine z06 ?_ | refine z07 ?_ | (show W _ _ _ (.cond _ _ _) _ _; refine z03 rfl ?_) | (refine hN _ ?_; try clear hN hE hR Qs) | ((first | refine hE _ _ ?_ | refine hR _ ?_); try clear hN hE hR Qs) | ((first | refine kN _ ?_ | refine kE _ ?_ | refine kX _ _ rfl ?_ | refine kR _ ?_); try clear kN kE kX kR Qb)) | (refine z0Q f1 ?_) | (refine And.intro i1 ?_) | (refine And.intro (h1 _) ?_) | (refine Exists.intro _ (And.intro g ?_)) | (refine Exists.intro _ (And.intro (gs _) ?_)) | (refine ccB ([_]) (d2) ?_) | (refine ccB ([_]) (d3) ?_) | (refine ccB ([_]) (d4) ?_) | (refine And.intro (by kernel_rfl) ?_) | (rw [List.set_set]) | (refine stpQ ?_))
   refine ⟨i + 1, hlt, by omega, ?_⟩
   rw [e10]
   refine z3J 1 _ i 4 rfl rfl (by first | exact gs _ | (rw [List.set_set]; exact gs _) | (rw [List.set_set, List.set_set]; exact gs _)) ?_
   refine z3J 1 _ i 3 rfl rfl (by first | exact gs _ | (rw [List.set_set]; exact gs _) | (rw [List.set_set, List.set_set]; exact gs _)) ?_
   refine z3J 1 _ i 2 rfl rfl (by first | exact gs _ | (rw [List.set_set]; exact gs _) | (rw [List.set_set, List.set_set]; exact gs _)) ?_
   refine LeP.g ?_
   (refine z08 (by rfl) ?_ ?_) <;> (repeat' (first | (exact eqA) | (refine shE ?_) | (refine And.intro ?_ ?_))) <;> first | rfl | exact hnx | (simp only [List.set_set]; exact hnx)
  ·have hie : i = es.length := by omega
   subst hie
   have f1 : ¬ (es.length : Int) < ((rwG elSp szSp k es es.length).length : Int) := by omega
   repeat ((try conv => whnf); first | (with_reducible first | refine z0c (fun Qs hN hE hR => ?_) | refine z0a ?_ | refine z02 (fun Qb kN kE kX kR => ?_) | refine z04 ?_ | refine z05 ?_ | refine z0b ?_ | refine z06 ?_ | refine z07 ?_ | (show W _ _ _ (.cond _ _ _) _ _; refine z03 rfl ?_) | (refine hN _ ?_; try clear hN hE hR Qs) | ((first | refine hE _ _ ?_ | refine hR _ ?_); try clear hN hE hR Qs) | ((first | refine kN _ ?_ | refine kE _ ?_ | refine kX _ _ rfl ?_ | refine kR _ ?_); try clear kN kE kX kR Qb)) | (refine z0z f1 ?_) | (refine stpQ ?_))
   rw [List.take_length]
   (refine z08 (by rfl) ?_ ?_) <;> (repeat' (first | (exact eqA) | (refine shE ?_) | (refine And.intro ?_ ?_))) <;> first | rfl | exact z6a _ _ _ _
 ·repeat ((try conv => whnf); first | (with_reducible first | refine z0c (fun Qs hN hE hR => ?_) | refine z0a ?_ | refine z02 (fun Qb kN kE kX kR => ?_) | refine z04 ?_ | refine z05 ?_ | refine z0b ?_ | refine z06 ?_ | refine z07 ?_ | (show W _ _ _ (.cond _ _ _) _ _; refine z03 rfl ?_) | (refine hN _ ?_; try clear hN hE hR Qs) | ((first | refine hE _ _ ?_ | refine hR _ ?_); try clear hN hE hR Qs) | ((first | refine kN _ ?_ | refine kE _ ?_ | refine kX _ _ rfl ?_ | refine kR _ ?_); try clear kN kE kX kR Qb)) | (refine stpQ ?_))
  (refine z00 (by rfl) ?_ ?_ (by rfl)) <;> (repeat' (first | (exact eqA) | (refine shE ?_) | (refine And.intro ?_ ?_)))
theorem z6j (es : List (List T)) (hw : WfSp es) (k : Nat) (hk : 0 < k) (hb : k + cnG szSp es ≤ 1000000000000000000) (hl : (es.length : Int) ≤ 1000000000) :
 CT Try.prog 38 [.deep 5 (mkG elSp szSp k es) []] [.ref 1, .int .i64 (k : Int)] (.int .i64 ((k + cnG szSp es : Nat) : Int)) [.deep 5 (mkG elSp szSp k es) []] := by
 have hlen := z2p elSp szSp k es
 refine z01 z0y 2 rfl Try.func38 rfl rfl rfl ?_
 conv => arg 6; whnf
 repeat ((try conv => whnf); first | (with_reducible first | refine z0c (fun Qs hN hE hR => ?_) | refine z0a ?_ | refine z02 (fun Qb kN kE kX kR => ?_) | refine z04 ?_ | refine z05 ?_ | refine z0b ?_ | refine z06 ?_ | refine z07 ?_ | (show W _ _ _ (.cond _ _ _) _ _; refine z03 rfl ?_) | (refine hN _ ?_; try clear hN hE hR Qs) | ((first | refine hE _ _ ?_ | refine hR _ ?_); try clear hN hE hR Qs) | ((first | refine kN _ ?_ | refine kE _ ?_ | refine kX _ _ rfl ?_ | refine kR _ ?_); try clear kN kE kX kR Qb)) | (refine stpQ ?_))
 refine z6L 0 ⟨[(1, .int .i64 ((k + cnG szSp es : Nat) : Int))], [(1, some (.deep 5 (mkG elSp szSp k es) []))], 2⟩ Nat (fun i => ⟨[(0, .ref 1), (1, .int .i64 ((k + cnG szSp (es.take i) : Nat) : Int)), (5, .int .i64 (i : Int))], [(1, some (.deep 5 (mkG elSp szSp k es) []))], 2⟩) (fun i => i ≤ es.length) (fun i => es.length - i) 0 (Nat.zero_le _) ?_ ?_ ?_
 ·(refine z08 (by rfl) ?_ ?_) <;> (repeat' (first | (exact eqA) | (refine shE ?_) | (refine And.intro ?_ ?_))) <;> first | rfl | decide
 ·intro i hi
  by_cases hlt : i < es.length
  ·have f1 : (i : Int) < ((mkG elSp szSp k es).length : Int) := by omega
   have i1 : i < (mkG elSp szSp k es).length := by omega
   have hcl := z5q szSp (es := es) (i := i + 1)
   obtain ⟨a0, a1, o2, o3, o4, he, w2, l2, w3, l3, w4, l4⟩ := hw _ (List.getElem_mem hlt)
   have g : (mkG elSp szSp k es)[i]? = some [.int .i64 (((k + cnG szSp (es.take i)) : Nat) : Int), .int .i64 (((k + cnG szSp (es.take i)) + 1 : Nat) : Int), .own 1 (mkG elSt szSt ((k + cnG szSp (es.take i)) + 1 + 1) o2), .own 1 (mkG elSt szSt (((k + cnG szSp (es.take i)) + 1 + 1 + cnG szSt o2)) o3), .own 1 (mkG elSt szSt ((((k + cnG szSp (es.take i)) + 1 + 1 + cnG szSt o2) + cnG szSt o3)) o4)] := by
    have := z83 elSp szSp k hlt
    rw [he] at this
    exact this
   have hcn : cnG szSp (es.take (i + 1)) = cnG szSp (es.take i) + (2 + cnG szSt o2 + cnG szSt o3 + cnG szSt o4) := by
    have := z2O szSp hlt
    rw [he] at this
    exact this
   have hnp : 0 < k + cnG szSp (es.take i) := by omega
   have hnb : k + cnG szSp (es.take i) + (2 + cnG szSt o2 + cnG szSt o3 + cnG szSt o4) ≤ 1000000000000000000 := by omega
   have e11 : k + cnG szSp (es.take (i + 1)) = k + cnG szSp (es.take i) + (2 + cnG szSt o2 + cnG szSt o3 + cnG szSt o4) := by omega
   generalize mkG elSp szSp k es = R at *
   generalize k + cnG szSp (es.take i) = n at *
   clear hb hk hcn hcl he hw
   have e10 : k + cnG szSp (es.take (i + 1)) = (((n + 1 + 1 + cnG szSt o2) + cnG szSt o3) + cnG szSt o4) := by omega
   have q0 : ((n : Nat) : Int) = ((n : Nat) : Int) := rfl
   have q1 : ((n + 1 : Nat) : Int) = ((n + 1 : Nat) : Int) := rfl
   have d2 := z0K o2 (n + 1 + 1) (by omega) (by omega) l2
   have z2 : ¬ ((n + 1 + 1 + cnG szSt o2 : Nat) : Int) < 0 := by omega
   have d3 := z0K o3 ((n + 1 + 1 + cnG szSt o2)) (by omega) (by omega) l3
   have z3 : ¬ (((n + 1 + 1 + cnG szSt o2) + cnG szSt o3 : Nat) : Int) < 0 := by omega
   have d4 := z0K o4 (((n + 1 + 1 + cnG szSt o2) + cnG szSt o3)) (by omega) (by omega) l4
   have z4 : ¬ ((((n + 1 + 1 + cnG szSt o2) + cnG szSt o3) + cnG szSt o4 : Nat) : Int) < 0 := by omega
   have h1 : ∀ X, i < (R.set i X).length := fun X => by rw [List.length_set]; exact i1
   have gs : ∀ X, (R.set i X)[i]? = some X := fun X => by rw [List.getElem?_set_self i1]
   have hnx := z3d g
   generalize mkG elSt szSt (n + 1 + 1) o2 = p2 at *
   generalize mkG elSt szSt ((n + 1 + 1 + cnG szSt o2)) o3 = p3 at *
   generalize mkG elSt szSt (((n + 1 + 1 + cnG szSt o2) + cnG szSt o3)) o4 = p4 at *
   repeat ((try conv => whnf); first | (with_reducible first | refine z0c (fun Qs hN hE hR => ?_) | refine z0a ?_ | refine z02 (fun Qb kN kE kX kR => ?_) | refine z04 ?_ | refine z05 ?_ | refine z0b ?_ | refine z06 ?_ | refine z07 ?_ | (show W _ _ _ (.cond _ _ _) _ _; refine z03 rfl ?_) | (refine hN _ ?_; try clear hN hE hR Qs) | ((first | refine hE _ _ ?_ | refine hR _ ?_); try clear hN hE hR Qs) | ((first | refine kN _ ?_ | refine kE _ ?_ | refine kX _ _ rfl ?_ | refine kR _ ?_); try clear kN kE kX kR Qb)) | (refine z0Q f1 ?_) | (refine And.intro i1 ?_) | (refine And.intro (h1 _) ?_) | (refine Exists.intro _ (And.intro g ?_)) | (refine Exists.intro _ (And.intro (gs _) ?_)) | (refine z25 q0 ?_) | (refine z25 q1 ?_) | (refine z0z z2 ?_) | (refine ccB ([_]) (d2) ?_) | (refine z0z z3 ?_) | (refine ccB ([_]) (d3) ?_) | (refine z0z z4 ?_) | (refine ccB ([_]) (d4) ?_) | (refine And.intro (by kernel_rfl) ?_) | (rw [List.set_set]) | (refine stpQ ?_))
   refine ⟨i + 1, hlt, by omega, ?_⟩
   rw [e10]
   refine z3J 1 _ i 4 rfl rfl (by first | exact gs _ | (rw [List.set_set]; exact gs _) | (rw [List.set_set, List.set_set]; exact gs _)) ?_
   refine z3J 1 _ i 3 rfl rfl (by first | exact gs _ | (rw [List.set_set]; exact gs _) | (rw [List.set_set, List.set_set]; exact gs _)) ?_
   refine z3J 1 _ i 2 rfl rfl (by first | exact gs _ | (rw [List.set_set]; exact gs _) | (rw [List.set_set, List.set_set]; exact gs _)) ?_
   refine LeP.g ?_
   (refine z08 (by rfl) ?_ ?_) <;> (repeat' (first | (exact eqA) | (refine shE ?_) | (refine And.intro ?_ ?_))) <;> first | rfl | exact hnx | (simp only [List.set_set]; exact hnx)
  ·have hie : i = es.length := by omega
   subst hie
   have f1 : ¬ (es.length : Int) < ((mkG elSp szSp k es).length : Int) := by omega
   repeat ((try conv => whnf); first | (with_reducible first | refine z0c (fun Qs hN hE hR => ?_) | refine z0a ?_ | refine z02 (fun Qb kN kE kX kR => ?_) | refine z04 ?_ | refine z05 ?_ | refine z0b ?_ | refine z06 ?_ | refine z07 ?_ | (show W _ _ _ (.cond _ _ _) _ _; refine z03 rfl ?_) | (refine hN _ ?_; try clear hN hE hR Qs) | ((first | refine hE _ _ ?_ | refine hR _ ?_); try clear hN hE hR Qs) | ((first | refine kN _ ?_ | refine kE _ ?_ | refine kX _ _ rfl ?_ | refine kR _ ?_); try clear kN kE kX kR Qb)) | (refine z0z f1 ?_) | (refine stpQ ?_))
   rw [List.take_length]
   (refine z08 (by rfl) ?_ ?_) <;> (repeat' (first | (exact eqA) | (refine shE ?_) | (refine And.intro ?_ ?_))) <;> first | rfl | exact z6a _ _ _ _
 ·repeat ((try conv => whnf); first | (with_reducible first | refine z0c (fun Qs hN hE hR => ?_) | refine z0a ?_ | refine z02 (fun Qb kN kE kX kR => ?_) | refine z04 ?_ | refine z05 ?_ | refine z0b ?_ | refine z06 ?_ | refine z07 ?_ | (show W _ _ _ (.cond _ _ _) _ _; refine z03 rfl ?_) | (refine hN _ ?_; try clear hN hE hR Qs) | ((first | refine hE _ _ ?_ | refine hR _ ?_); try clear hN hE hR Qs) | ((first | refine kN _ ?_ | refine kE _ ?_ | refine kX _ _ rfl ?_ | refine kR _ ?_); try clear kN kE kX kR Qb)) | (refine stpQ ?_))
  (refine z00 (by rfl) ?_ ?_ (by rfl)) <;> (repeat' (first | (exact eqA) | (refine shE ?_) | (refine And.intro ?_ ?_)))
theorem z7q (a3 : Int) (a4 : Int) (a5 : Bs) (a6 : Bs) (a7 : Int) (z0 : List (List T)) (w0 : WfLf z0) (l0 : (z0.length : Int) ≤ 1000000000) (z1 : List (List T)) (w1 : WfSt z1) (l1 : (z1.length : Int) ≤ 1000000000) (z2 : List (List T)) (w2 : WfSt z2) (l2 : (z2.length : Int) ≤ 1000000000) (z8 : List (List T)) (w8 : WfSt z8) (l8 : (z8.length : Int) ≤ 1000000000) (z9 : List (List T)) (w9 : WfSt z9) (l9 : (z9.length : Int) ≤ 1000000000) (z10 : List (List T)) (w10 : WfSt z10) (l10 : (z10.length : Int) ≤ 1000000000) (z11 : List (List T)) (w11 : WfSp z11) (l11 : (z11.length : Int) ≤ 1000000000) (k : Nat) (hk : 0 < k) (hb : k + cnG szLf z0 + cnG szSt z1 + cnG szSt z2 + cnG szSt z8 + cnG szSt z9 + cnG szSt z10 + cnG szSp z11 ≤ 1000000000000000000) :
 CT Try.prog 7 [.deep 2 (z0) [], .deep 1 (z1) [], .deep 1 (z2) [], .deep 1 (z8) [], .deep 1 (z9) [], .deep 1 (z10) [], .deep 5 (z11) []] [.agg [.ref 1, .ref 2, .ref 3, .int .i64 a3, .int .i64 a4, .str a5, .str a6, .int .i64 a7, .ref 4, .ref 5, .ref 6, .ref 7], .int .i64 (k : Int)] (.int .i64 ((k + cnG szLf z0 + cnG szSt z1 + cnG szSt z2 + cnG szSt z8 + cnG szSt z9 + cnG szSt z10 + cnG szSp z11 : Nat) : Int)) [.deep 2 (mkG elLf szLf (k) z0) [], .deep 1 (mkG elSt szSt (k + cnG szLf z0) z1) [], .deep 1 (mkG elSt szSt (k + cnG szLf z0 + cnG szSt z1) z2) [], .deep 1 (mkG elSt szSt (k + cnG szLf z0 + cnG szSt z1 + cnG szSt z2) z8) [], .deep 1 (mkG elSt szSt (k + cnG szLf z0 + cnG szSt z1 + cnG szSt z2 + cnG szSt z8) z9) [], .deep 1 (mkG elSt szSt (k + cnG szLf z0 + cnG szSt z1 + cnG szSt z2 + cnG szSt z8 + cnG szSt z9) z10) [], .deep 5 (mkG elSp szSp (k + cnG szLf z0 + cnG szSt z1 + cnG szSt z2 + cnG szSt z8 + cnG szSt z9 + cnG szSt z10) z11) []] := by
 have d0 := z8a  z0 w0 l0 z1 w1 l1 (k) (by omega) (by omega)
 have d1 := z0J z2 w2 (k + cnG szLf z0 + cnG szSt z1) (by omega) (by omega) l2
 have d2 := z9C a3 a4 a5 a6 a7 z8 w8 l8 z9 w9 l9 z10 w10 l10 (k + cnG szLf z0 + cnG szSt z1 + cnG szSt z2) (by omega) (by omega)
 have d3 := z6i z11 w11 (k + cnG szLf z0 + cnG szSt z1 + cnG szSt z2 + cnG szSt z8 + cnG szSt z9 + cnG szSt z10) (by omega) (by omega) l11
 generalize mkG elLf szLf (k) z0 = p0 at *
 generalize mkG elSt szSt (k + cnG szLf z0) z1 = p1 at *
 generalize mkG elSt szSt (k + cnG szLf z0 + cnG szSt z1) z2 = p2 at *
 generalize mkG elSt szSt (k + cnG szLf z0 + cnG szSt z1 + cnG szSt z2) z8 = p8 at *
 generalize mkG elSt szSt (k + cnG szLf z0 + cnG szSt z1 + cnG szSt z2 + cnG szSt z8) z9 = p9 at *
 generalize mkG elSt szSt (k + cnG szLf z0 + cnG szSt z1 + cnG szSt z2 + cnG szSt z8 + cnG szSt z9) z10 = p10 at *
 generalize mkG elSp szSp (k + cnG szLf z0 + cnG szSt z1 + cnG szSt z2 + cnG szSt z8 + cnG szSt z9 + cnG szSt z10) z11 = p11 at *
 refine z01 z0y 8 rfl Try.func7 rfl rfl rfl ?_
 conv => arg 6; whnf
 repeat ((try conv => whnf); first | (with_reducible first | refine z0c (fun Qs hN hE hR => ?_) | refine z0a ?_ | refine z02 (fun Qb kN kE kX kR => ?_) | refine z04 ?_ | refine z05 ?_ | refine z0b ?_ | refine z06 ?_ | refine z07 ?_ | (show W _ _ _ (.cond _ _ _) _ _; refine z03 rfl ?_) | (refine hN _ ?_; try clear hN hE hR Qs) | ((first | refine hE _ _ ?_ | refine hR _ ?_); try clear hN hE hR Qs) | ((first | refine kN _ ?_ | refine kE _ ?_ | refine kX _ _ rfl ?_ | refine kR _ ?_); try clear kN kE kX kR Qb)) | (refine ccB ([_, _]) (d0) ?_) | (refine ccB ([_]) (d1) ?_) | (refine ccB ([_, _, _]) (d2) ?_) | (refine ccB ([_]) (d3) ?_) | (refine And.intro (by kernel_rfl) ?_) | (refine stpQ ?_))
 (refine z00 (by rfl) ?_ ?_ (by rfl)) <;> (repeat' (first | (exact eqA) | (refine shE ?_) | (refine And.intro ?_ ?_)))
theorem z7r (a3 : Int) (a4 : Int) (a5 : Bs) (a6 : Bs) (a7 : Int) (z0 : List (List T)) (w0 : WfLf z0) (l0 : (z0.length : Int) ≤ 1000000000) (z1 : List (List T)) (w1 : WfSt z1) (l1 : (z1.length : Int) ≤ 1000000000) (z2 : List (List T)) (w2 : WfSt z2) (l2 : (z2.length : Int) ≤ 1000000000) (z8 : List (List T)) (w8 : WfSt z8) (l8 : (z8.length : Int) ≤ 1000000000) (z9 : List (List T)) (w9 : WfSt z9) (l9 : (z9.length : Int) ≤ 1000000000) (z10 : List (List T)) (w10 : WfSt z10) (l10 : (z10.length : Int) ≤ 1000000000) (z11 : List (List T)) (w11 : WfSp z11) (l11 : (z11.length : Int) ≤ 1000000000) (k : Nat) (hk : 0 < k) (hb : k + cnG szLf z0 + cnG szSt z1 + cnG szSt z2 + cnG szSt z8 + cnG szSt z9 + cnG szSt z10 + cnG szSp z11 ≤ 1000000000000000000) :
 CT Try.prog 8 [.deep 2 (mkG elLf szLf (k) z0) [], .deep 1 (mkG elSt szSt (k + cnG szLf z0) z1) [], .deep 1 (mkG elSt szSt (k + cnG szLf z0 + cnG szSt z1) z2) [], .deep 1 (mkG elSt szSt (k + cnG szLf z0 + cnG szSt z1 + cnG szSt z2) z8) [], .deep 1 (mkG elSt szSt (k + cnG szLf z0 + cnG szSt z1 + cnG szSt z2 + cnG szSt z8) z9) [], .deep 1 (mkG elSt szSt (k + cnG szLf z0 + cnG szSt z1 + cnG szSt z2 + cnG szSt z8 + cnG szSt z9) z10) [], .deep 5 (mkG elSp szSp (k + cnG szLf z0 + cnG szSt z1 + cnG szSt z2 + cnG szSt z8 + cnG szSt z9 + cnG szSt z10) z11) []] [.agg [.ref 1, .ref 2, .ref 3, .int .i64 a3, .int .i64 a4, .str a5, .str a6, .int .i64 a7, .ref 4, .ref 5, .ref 6, .ref 7], .int .i64 (k : Int)] (.int .i64 ((k + cnG szLf z0 + cnG szSt z1 + cnG szSt z2 + cnG szSt z8 + cnG szSt z9 + cnG szSt z10 + cnG szSp z11 : Nat) : Int)) [.deep 2 (mkG elLf szLf (k) z0) [], .deep 1 (mkG elSt szSt (k + cnG szLf z0) z1) [], .deep 1 (mkG elSt szSt (k + cnG szLf z0 + cnG szSt z1) z2) [], .deep 1 (mkG elSt szSt (k + cnG szLf z0 + cnG szSt z1 + cnG szSt z2) z8) [], .deep 1 (mkG elSt szSt (k + cnG szLf z0 + cnG szSt z1 + cnG szSt z2 + cnG szSt z8) z9) [], .deep 1 (mkG elSt szSt (k + cnG szLf z0 + cnG szSt z1 + cnG szSt z2 + cnG szSt z8 + cnG szSt z9) z10) [], .deep 5 (mkG elSp szSp (k + cnG szLf z0 + cnG szSt z1 + cnG szSt z2 + cnG szSt z8 + cnG szSt z9 + cnG szSt z10) z11) []] := by
 have d0 := z8b  z0 w0 l0 z1 w1 l1 (k) (by omega) (by omega)
 have y0 : ¬ ((k + cnG szLf z0 + cnG szSt z1 : Nat) : Int) < 0 := by omega
 have d1 := z0K z2 (k + cnG szLf z0 + cnG szSt z1) (by omega) (by omega) l2
 have y1 : ¬ ((k + cnG szLf z0 + cnG szSt z1 + cnG szSt z2 : Nat) : Int) < 0 := by omega
 have d2 := z9D a3 a4 a5 a6 a7 z8 w8 l8 z9 w9 l9 z10 w10 l10 (k + cnG szLf z0 + cnG szSt z1 + cnG szSt z2) (by omega) (by omega)
 have y2 : ¬ ((k + cnG szLf z0 + cnG szSt z1 + cnG szSt z2 + cnG szSt z8 + cnG szSt z9 + cnG szSt z10 : Nat) : Int) < 0 := by omega
 have d3 := z6j z11 w11 (k + cnG szLf z0 + cnG szSt z1 + cnG szSt z2 + cnG szSt z8 + cnG szSt z9 + cnG szSt z10) (by omega) (by omega) l11
 have y3 : ¬ ((k + cnG szLf z0 + cnG szSt z1 + cnG szSt z2 + cnG szSt z8 + cnG szSt z9 + cnG szSt z10 + cnG szSp z11 : Nat) : Int) < 0 := by omega
 generalize mkG elLf szLf (k) z0 = p0 at *
 generalize mkG elSt szSt (k + cnG szLf z0) z1 = p1 at *
 generalize mkG elSt szSt (k + cnG szLf z0 + cnG szSt z1) z2 = p2 at *
 generalize mkG elSt szSt (k + cnG szLf z0 + cnG szSt z1 + cnG szSt z2) z8 = p8 at *
 generalize mkG elSt szSt (k + cnG szLf z0 + cnG szSt z1 + cnG szSt z2 + cnG szSt z8) z9 = p9 at *
 generalize mkG elSt szSt (k + cnG szLf z0 + cnG szSt z1 + cnG szSt z2 + cnG szSt z8 + cnG szSt z9) z10 = p10 at *
 generalize mkG elSp szSp (k + cnG szLf z0 + cnG szSt z1 + cnG szSt z2 + cnG szSt z8 + cnG szSt z9 + cnG szSt z10) z11 = p11 at *
 refine z01 z0y 8 rfl Try.func8 rfl rfl rfl ?_
 conv => arg 6; whnf
 repeat ((try conv => whnf); first | (with_reducible first | refine z0c (fun Qs hN hE hR => ?_) | refine z0a ?_ | refine z02 (fun Qb kN kE kX kR => ?_) | refine z04 ?_ | refine z05 ?_ | refine z0b ?_ | refine z06 ?_ | refine z07 ?_ | (show W _ _ _ (.cond _ _ _) _ _; refine z03 rfl ?_) | (refine hN _ ?_; try clear hN hE hR Qs) | ((first | refine hE _ _ ?_ | refine hR _ ?_); try clear hN hE hR Qs) | ((first | refine kN _ ?_ | refine kE _ ?_ | refine kX _ _ rfl ?_ | refine kR _ ?_); try clear kN kE kX kR Qb)) | (refine z0z y0 ?_) | (refine ccB ([_, _]) (d0) ?_) | (refine z0z y1 ?_) | (refine ccB ([_]) (d1) ?_) | (refine z0z y2 ?_) | (refine ccB ([_, _, _]) (d2) ?_) | (refine z0z y3 ?_) | (refine ccB ([_]) (d3) ?_) | (refine And.intro (by kernel_rfl) ?_) | (refine stpQ ?_))
 (refine z00 (by rfl) ?_ ?_ (by rfl)) <;> (repeat' (first | (exact eqA) | (refine shE ?_) | (refine And.intro ?_ ?_)))
end
end Go.Proofs.Ytnhcfmmdaihneaa
