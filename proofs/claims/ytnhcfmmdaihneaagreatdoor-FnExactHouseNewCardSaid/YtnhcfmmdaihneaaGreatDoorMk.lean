/- Functions by content: flat rows are marked and looked at by the exact laws. Functions by content: rows that own rows are marked and looked at by the exact laws. Functions by content: structs are marked and looked at by the exact laws. -/
import Derived.Test.YtnhcfmmdaihneaaGreatDoorVe
import Derived.Test.YtnhcfmmdaihneaaGreatDoorXt
import Derived.Test.YtnhcfmmdaihneaaGreatDoorPlainM
namespace Go.Proofs.YtnhcfmmdaihneaaGreatDoor
set_option maxRecDepth 100000
set_option maxHeartbeats 4000000
set_option linter.unusedVariables false
set_option linter.unusedSimpArgs false
set_option linter.unusedSectionVars false
open Go.RowKit Pl
theorem zl7 : ∀ (n : Nat) (out : Bs), (decG n out).length ≤ out.length + n := by
 intro n
 induction n using Nat.strongRecOn with
 | _ n ih =>
   intro out
   by_cases h : n = 0
   ·subst h; rw [zae]; omega
   ·rw [zaf h]
    have h1 : n / 10 < n := Nat.div_lt_self (by omega) (by omega)
    have := ih (n / 10) h1 (UInt8.ofNat (48 + n % 10) :: out)
    rw [List.length_cons] at this
    omega
def elSt (k : Nat) (_ : List T) : List T := [.str (z0p (k))]
def szSt (_ : List T) : Nat := 1
def WfSt (es : List (List T)) : Prop := ∀ e ∈ es, ∃ a0 : Bs, e = [.str a0]
def elIt (k : Nat) (_ : List T) : List T := [.int .i64 ((k : Nat) : Int)]
def szIt (_ : List T) : Nat := 1
def WfIt (es : List (List T)) : Prop := ∀ e ∈ es, ∃ a0 : Int, e = [.int .i64 a0]
def elBo (k : Nat) (_ : List T) : List T := [.bool (decide (((k : Nat) : Int).tmod 3 = 0))]
def szBo (_ : List T) : Nat := 1
def WfBo (es : List (List T)) : Prop := ∀ e ∈ es, ∃ a0 : Bool, e = [.bool a0]
def elFl (k : Nat) (_ : List T) : List T := [.str (z0p (k)), .str (z0p (k + 1)), .int .i64 ((k + 1 + 1 : Nat) : Int)]
def szFl (_ : List T) : Nat := 3
def WfFl (es : List (List T)) : Prop := ∀ e ∈ es, ∃ a0 : Bs, ∃ a1 : Bs, ∃ a2 : Int, e = [.str a0, .str a1, .int .i64 a2]
def elLf (k : Nat) (_ : List T) : List T := [.str (z0p (k)), .str (z0p (k + 1))]
def szLf (_ : List T) : Nat := 2
def WfLf (es : List (List T)) : Prop := ∀ e ∈ es, ∃ a0 : Bs, ∃ a1 : Bs, e = [.str a0, .str a1]
def elCh (k : Nat) (_ : List T) : List T := [.int .i64 ((k : Nat) : Int), .str (z0p (k + 1)), .str (z0p (k + 1 + 1))]
def szCh (_ : List T) : Nat := 3
def WfCh (es : List (List T)) : Prop := ∀ e ∈ es, ∃ a0 : Int, ∃ a1 : Bs, ∃ a2 : Bs, e = [.int .i64 a0, .str a1, .str a2]
section
attribute [local irreducible] z0w z0x z0A AnsP LeP W
theorem z0I (n : Nat) (hn : 0 < n) (hb : n ≤ 1000000000000000000) : CT Tryz.prog 124 [] [.int .i64 (n : Int)] (.str (z0p n)) [] := by
 have f0 : ¬ (n : Int) ≤ 0 := by omega
 have hm : z0p n = [109] ++ decG n [] := by rw [z0p, if_neg (by omega)]; rfl
 rw [hm]
 clear hm
 refine z01 z03 1 rfl Tryz.func124 rfl rfl rfl ?_
 conv => arg 6; whnf
 repeat ((try conv => whnf); first | (with_reducible first | refine z0c (fun Qs hN hE hR => ?_) | refine z0a ?_ | refine z04 (fun Qb kN kE kX kR => ?_) | refine z06 ?_ | refine z07 ?_ | refine z0b ?_ | refine z08 ?_ | refine z09 ?_ | (show W _ _ _ (.cond _ _ _) _ _; refine z05 rfl ?_) | (refine hN _ ?_; try clear hN hE hR Qs) | ((first | refine hE _ _ ?_ | refine hR _ ?_); try clear hN hE hR Qs) | ((first | refine kN _ ?_ | refine kE _ ?_ | refine kX _ _ rfl ?_ | refine kR _ ?_); try clear kN kE kX kR Qb)) | (refine z0j f0 ?_) | (refine stpQ ?_))
 refine z0n 0 ⟨[(3, .str (decG n []))], [], 2⟩ (Nat × Bs) (fun x => ⟨[(0, .int .i64 (x.1 : Int)), (3, .str x.2)], [], 2⟩) (fun x => decG x.1 x.2 = decG n [] ∧ (x.2.length : Int) + x.1 ≤ 1000000000000000000) (fun x => x.1) (n, []) ⟨rfl, by simp; omega⟩ ?_ ?_ ?_
 ·(refine z02 (by rfl) ?_ ?_) <;> (repeat' (first | (exact eqA) | (refine shE ?_) | (refine And.intro ?_ ?_))) <;> first | rfl | decide
 ·intro x hx
  obtain ⟨m, out⟩ := x
  have h1 : decG m out = decG n [] := hx.1
  have h2 : (out.length : Int) + m ≤ 1000000000000000000 := hx.2
  clear hx
  by_cases hm : m = 0
  ·subst hm
   rw [zae] at h1
   repeat ((try conv => whnf); first | (with_reducible first | refine z0c (fun Qs hN hE hR => ?_) | refine z0a ?_ | refine z04 (fun Qb kN kE kX kR => ?_) | refine z06 ?_ | refine z07 ?_ | refine z0b ?_ | refine z08 ?_ | refine z09 ?_ | (show W _ _ _ (.cond _ _ _) _ _; refine z05 rfl ?_) | (refine hN _ ?_; try clear hN hE hR Qs) | ((first | refine hE _ _ ?_ | refine hR _ ?_); try clear hN hE hR Qs) | ((first | refine kN _ ?_ | refine kE _ ?_ | refine kX _ _ rfl ?_ | refine kR _ ?_); try clear kN kE kX kR Qb)) | (refine stpQ ?_))
   (refine z02 (by rfl) ?_ ?_) <;> (repeat' (first | (exact eqA) | (refine shE ?_) | (refine And.intro ?_ ?_))) <;> exact h1
  ·have hd : m / 10 < m := Nat.div_lt_self (by omega) (by omega)
   have fm : (m : Int) > 0 := by omega
   repeat ((try conv => whnf); first | (with_reducible first | refine z0c (fun Qs hN hE hR => ?_) | refine z0a ?_ | refine z04 (fun Qb kN kE kX kR => ?_) | refine z06 ?_ | refine z07 ?_ | refine z0b ?_ | refine z08 ?_ | refine z09 ?_ | (show W _ _ _ (.cond _ _ _) _ _; refine z05 rfl ?_) | (refine hN _ ?_; try clear hN hE hR Qs) | ((first | refine hE _ _ ?_ | refine hR _ ?_); try clear hN hE hR Qs) | ((first | refine kN _ ?_ | refine kE _ ?_ | refine kX _ _ rfl ?_ | refine kR _ ?_); try clear kN kE kX kR Qb)) | (refine z0o fm ?_) | (refine zak (n := nat_lit 10) ?_) | (refine zjM (by omega) ?_) | (refine w_u8 ?_) | (refine zjL (n := nat_lit 10) (by omega) ?_) | (refine Exists.intro [UInt8.ofNat (48 + m % 10)] (And.intro rfl ?_)) | (refine And.intro (by simp only [List.length_cons, List.length_nil]; omega) ?_) | (refine stpQ ?_))
   refine ⟨(m / 10, UInt8.ofNat (48 + m % 10) :: out), ⟨by show decG (m / 10) _ = _; rw [← h1, zaf hm], ?_⟩, hd, ?_⟩
   ·show (((UInt8.ofNat (48 + m % 10) :: out).length : Nat) : Int) + ((m / 10 : Nat) : Int) ≤ 1000000000000000000
    rw [List.length_cons]; omega
   ·(refine z02 (by rfl) ?_ ?_) <;> (repeat' (first | (exact eqA) | (refine shE ?_) | (refine And.intro ?_ ?_))) <;> rfl
 ·have hle : (decG n []).length ≤ n := by have := zl7 n []; simpa using this
  generalize decG n [] = o at *
  repeat ((try conv => whnf); first | (with_reducible first | refine z0c (fun Qs hN hE hR => ?_) | refine z0a ?_ | refine z04 (fun Qb kN kE kX kR => ?_) | refine z06 ?_ | refine z07 ?_ | refine z0b ?_ | refine z08 ?_ | refine z09 ?_ | (show W _ _ _ (.cond _ _ _) _ _; refine z05 rfl ?_) | (refine hN _ ?_; try clear hN hE hR Qs) | ((first | refine hE _ _ ?_ | refine hR _ ?_); try clear hN hE hR Qs) | ((first | refine kN _ ?_ | refine kE _ ?_ | refine kX _ _ rfl ?_ | refine kR _ ?_); try clear kN kE kX kR Qb)) | (refine And.intro (by simp only [List.length_cons, List.length_nil]; omega) ?_) | (refine stpQ ?_))
  (refine z00 (by rfl) ?_ ?_ (by rfl)) <;> (repeat' (first | (exact eqA) | (refine shE ?_) | (refine And.intro ?_ ?_)))
theorem z1E (es : List (List T)) (hw : WfSt es) (k : Nat) (hk : 0 < k) (hb : k + cnG szSt es ≤ 1000000000000000000) (hl : (es.length : Int) ≤ 1000000000) :
 CT Tryz.prog 50 [.deep 1 es []] [.ref 1, .int .i64 (k : Int)] (.int .i64 ((k + cnG szSt es : Nat) : Int)) [.deep 1 (mkG elSt szSt k es) []] := by
 refine z01 z03 2 rfl Tryz.func50 rfl rfl rfl ?_
 conv => arg 6; whnf
 repeat ((try conv => whnf); first | (with_reducible first | refine z0c (fun Qs hN hE hR => ?_) | refine z0a ?_ | refine z04 (fun Qb kN kE kX kR => ?_) | refine z06 ?_ | refine z07 ?_ | refine z0b ?_ | refine z08 ?_ | refine z09 ?_ | (show W _ _ _ (.cond _ _ _) _ _; refine z05 rfl ?_) | (refine hN _ ?_; try clear hN hE hR Qs) | ((first | refine hE _ _ ?_ | refine hR _ ?_); try clear hN hE hR Qs) | ((first | refine kN _ ?_ | refine kE _ ?_ | refine kX _ _ rfl ?_ | refine kR _ ?_); try clear kN kE kX kR Qb)) | (refine stpQ ?_))
 refine z0n 0 ⟨[(1, .int .i64 ((k + cnG szSt es : Nat) : Int))], [(1, some (.deep 1 (mkG elSt szSt k es) []))], 2⟩ Nat (fun i => ⟨[(0, .ref 1), (1, .int .i64 ((k + cnG szSt (es.take i) : Nat) : Int)), (5, .int .i64 (i : Int))], [(1, some (.deep 1 (rwG elSt szSt k es i) []))], 2⟩) (fun i => i ≤ es.length) (fun i => es.length - i) 0 (Nat.zero_le _) ?_ ?_ ?_
 ·(refine z02 (by rfl) ?_ ?_) <;> (repeat' (first | (exact eqA) | (refine shE ?_) | (refine And.intro ?_ ?_))) <;> first | rfl | decide
 ·intro i hi
  have hlen := z3v elSt szSt (k := k) hi
  by_cases hlt : i < es.length
  ·have f1 : (i : Int) < ((rwG elSt szSt k es i).length : Int) := by omega
   have i1 : i < (rwG elSt szSt k es i).length := by omega
   have g := z5o elSt szSt (k := k) hlt
   have hnx : (rwG elSt szSt k es i).set i [.str (z0p ((k + cnG szSt (es.take i))))] = rwG elSt szSt k es (i + 1) := z2y elSt szSt (k := k) hlt
   have hcn : cnG szSt (es.take (i + 1)) = cnG szSt (es.take i) + 1 := z1e szSt hlt
   have hcl := z23 szSt (es := es) (i := i + 1)
   have e10 : k + cnG szSt (es.take (i + 1)) = (k + cnG szSt (es.take i)) + 1 := by omega
   obtain ⟨a0, he⟩ := hw _ (List.getElem_mem hlt)
   rw [he] at g
   have hnp : 0 < k + cnG szSt (es.take i) := by omega
   have hnb : k + cnG szSt (es.take i) + 1 ≤ 1000000000000000000 := by omega
   generalize rwG elSt szSt k es i = R at *
   generalize k + cnG szSt (es.take i) = n at *
   clear hb hk hcn hcl he hw
   have m0 := z0I (n) (by omega) (by omega)
   generalize z0p (n) = t0 at *
   have h1 : ∀ X, i < (R.set i X).length := fun X => by rw [List.length_set]; exact i1
   have gs : ∀ X, (R.set i X)[i]? = some X := fun X => by rw [List.getElem?_set_self i1]
   repeat ((try conv => whnf); first | (with_reducible first | refine z0c (fun Qs hN hE hR => ?_) | refine z0a ?_ | refine z04 (fun Qb kN kE kX kR => ?_) | refine z06 ?_ | refine z07 ?_ | refine z0b ?_ | refine z08 ?_ | refine z09 ?_ | (show W _ _ _ (.cond _ _ _) _ _; refine z05 rfl ?_) | (refine hN _ ?_; try clear hN hE hR Qs) | ((first | refine hE _ _ ?_ | refine hR _ ?_); try clear hN hE hR Qs) | ((first | refine kN _ ?_ | refine kE _ ?_ | refine kX _ _ rfl ?_ | refine kR _ ?_); try clear kN kE kX kR Qb)) | (refine z0o f1 ?_) | (refine And.intro i1 ?_) | (refine And.intro (h1 _) ?_) | (refine Exists.intro _ (And.intro g ?_)) | (refine Exists.intro _ (And.intro (gs _) ?_)) | (refine ccA ([]) (m0) ?_) | (refine And.intro (by kernel_rfl) ?_) | (rw [List.set_set]) | (refine stpQ ?_))
   refine ⟨i + 1, hlt, by omega, ?_⟩
   rw [e10]
   (refine z02 (by rfl) ?_ ?_) <;> (repeat' (first | (exact eqA) | (refine shE ?_) | (refine And.intro ?_ ?_))) <;> first | rfl | exact hnx | (rw [List.set_set]; exact hnx)
  ·have hie : i = es.length := by omega
   subst hie
   have f1 : ¬ (es.length : Int) < ((rwG elSt szSt k es es.length).length : Int) := by omega
   repeat ((try conv => whnf); first | (with_reducible first | refine z0c (fun Qs hN hE hR => ?_) | refine z0a ?_ | refine z04 (fun Qb kN kE kX kR => ?_) | refine z06 ?_ | refine z07 ?_ | refine z0b ?_ | refine z08 ?_ | refine z09 ?_ | (show W _ _ _ (.cond _ _ _) _ _; refine z05 rfl ?_) | (refine hN _ ?_; try clear hN hE hR Qs) | ((first | refine hE _ _ ?_ | refine hR _ ?_); try clear hN hE hR Qs) | ((first | refine kN _ ?_ | refine kE _ ?_ | refine kX _ _ rfl ?_ | refine kR _ ?_); try clear kN kE kX kR Qb)) | (refine z0j f1 ?_) | (refine stpQ ?_))
   rw [List.take_length]
   (refine z02 (by rfl) ?_ ?_) <;> (repeat' (first | (exact eqA) | (refine shE ?_) | (refine And.intro ?_ ?_))) <;> first | rfl | exact z2u _ _ _ _
 ·repeat ((try conv => whnf); first | (with_reducible first | refine z0c (fun Qs hN hE hR => ?_) | refine z0a ?_ | refine z04 (fun Qb kN kE kX kR => ?_) | refine z06 ?_ | refine z07 ?_ | refine z0b ?_ | refine z08 ?_ | refine z09 ?_ | (show W _ _ _ (.cond _ _ _) _ _; refine z05 rfl ?_) | (refine hN _ ?_; try clear hN hE hR Qs) | ((first | refine hE _ _ ?_ | refine hR _ ?_); try clear hN hE hR Qs) | ((first | refine kN _ ?_ | refine kE _ ?_ | refine kX _ _ rfl ?_ | refine kR _ ?_); try clear kN kE kX kR Qb)) | (refine stpQ ?_))
  (refine z00 (by rfl) ?_ ?_ (by rfl)) <;> (repeat' (first | (exact eqA) | (refine shE ?_) | (refine And.intro ?_ ?_)))
theorem z1F (es : List (List T)) (k : Nat) (hk : 0 < k) (hb : k + cnG szSt es ≤ 1000000000000000000) (hl : (es.length : Int) ≤ 1000000000) :
 CT Tryz.prog 52 [.deep 1 (mkG elSt szSt k es) []] [.ref 1, .int .i64 (k : Int)] (.int .i64 ((k + cnG szSt es : Nat) : Int)) [.deep 1 (mkG elSt szSt k es) []] := by
 have hlen := z1O elSt szSt k es
 refine z01 z03 2 rfl Tryz.func52 rfl rfl rfl ?_
 conv => arg 6; whnf
 repeat ((try conv => whnf); first | (with_reducible first | refine z0c (fun Qs hN hE hR => ?_) | refine z0a ?_ | refine z04 (fun Qb kN kE kX kR => ?_) | refine z06 ?_ | refine z07 ?_ | refine z0b ?_ | refine z08 ?_ | refine z09 ?_ | (show W _ _ _ (.cond _ _ _) _ _; refine z05 rfl ?_) | (refine hN _ ?_; try clear hN hE hR Qs) | ((first | refine hE _ _ ?_ | refine hR _ ?_); try clear hN hE hR Qs) | ((first | refine kN _ ?_ | refine kE _ ?_ | refine kX _ _ rfl ?_ | refine kR _ ?_); try clear kN kE kX kR Qb)) | (refine stpQ ?_))
 refine z1C Nat (fun i => ⟨[(0, .ref 1), (1, .int .i64 ((k + cnG szSt (es.take i) : Nat) : Int)), (5, .int .i64 (i : Int))], [(1, some (.deep 1 (mkG elSt szSt k es) []))], 2⟩) (fun i => i ≤ es.length) (fun i => es.length - i) 0 (Nat.zero_le _) ?_ ?_
 ·(refine z02 (by rfl) ?_ ?_) <;> (repeat' (first | (exact eqA) | (refine shE ?_) | (refine And.intro ?_ ?_))) <;> first | rfl | decide
 ·intro Q1 hQ1 i hi
  by_cases hlt : i < es.length
  ·have f1 : (i : Int) < ((mkG elSt szSt k es).length : Int) := by omega
   have i1 : i < (mkG elSt szSt k es).length := by omega
   have g : (mkG elSt szSt k es)[i]? = some [.str (z0p ((k + cnG szSt (es.take i))))] := z3u elSt szSt k hlt
   have hcn : cnG szSt (es.take (i + 1)) = cnG szSt (es.take i) + 1 := z1e szSt hlt
   have hcl := z23 szSt (es := es) (i := i + 1)
   have e10 : k + cnG szSt (es.take (i + 1)) = (k + cnG szSt (es.take i)) + 1 := by omega
   have hnp : 0 < k + cnG szSt (es.take i) := by omega
   have hnb : k + cnG szSt (es.take i) + 1 ≤ 1000000000000000000 := by omega
   generalize mkG elSt szSt k es = R at *
   generalize k + cnG szSt (es.take i) = n at *
   clear hb hk hcn hcl
   have m0 := z0I (n) (by omega) (by omega)
   generalize z0p (n) = t0 at *
   have r0 : t0 = t0 := rfl
   repeat ((try conv => whnf); first | (with_reducible first | refine z0c (fun Qs hN hE hR => ?_) | refine z0a ?_ | refine z04 (fun Qb kN kE kX kR => ?_) | refine z06 ?_ | refine z07 ?_ | refine z0b ?_ | refine z08 ?_ | refine z09 ?_ | (show W _ _ _ (.cond _ _ _) _ _; refine z05 rfl ?_) | (refine hN _ ?_; try clear hN hE hR Qs) | ((first | refine hE _ _ ?_ | refine hR _ ?_); try clear hN hE hR Qs) | ((first | refine kN _ ?_ | refine kE _ ?_ | refine kX _ _ rfl ?_ | refine kR _ ?_); try clear kN kE kX kR Qb)) | (refine z0o f1 ?_) | (refine And.intro i1 ?_) | (refine Exists.intro _ (And.intro g ?_)) | (refine ccA ([]) (m0) ?_) | (refine z0S r0 ?_) | (refine And.intro (by kernel_rfl) ?_) | (refine stpQ ?_))
   refine ⟨i + 1, hlt, by omega, ?_⟩
   rw [e10]
   (refine z02 (by rfl) ?_ ?_) <;> (repeat' (first | (exact eqA) | (refine shE ?_) | (refine And.intro ?_ ?_)))
  ·have hie : i = es.length := by omega
   subst hie
   have f1 : ¬ (es.length : Int) < ((mkG elSt szSt k es).length : Int) := by omega
   repeat ((try conv => whnf); first | (with_reducible first | refine z0c (fun Qs hN hE hR => ?_) | refine z0a ?_ | refine z04 (fun Qb kN kE kX kR => ?_) | refine z06 ?_ | refine z07 ?_ | refine z0b ?_ | refine z08 ?_ | refine z09 ?_ | (show W _ _ _ (.cond _ _ _) _ _; refine z05 rfl ?_) | (refine hN _ ?_; try clear hN hE hR Qs) | ((first | refine hE _ _ ?_ | refine hR _ ?_); try clear hN hE hR Qs) | ((first | refine kN _ ?_ | refine kE _ ?_ | refine kX _ _ rfl ?_ | refine kR _ ?_); try clear kN kE kX kR Qb)) | (refine z0j f1 ?_) | (refine stpQ ?_))
   refine hQ1 _ _ ?_
   clear hQ1 Q1
   rw [List.take_length]
   repeat ((try conv => whnf); first | (with_reducible first | refine z0c (fun Qs hN hE hR => ?_) | refine z0a ?_ | refine z04 (fun Qb kN kE kX kR => ?_) | refine z06 ?_ | refine z07 ?_ | refine z0b ?_ | refine z08 ?_ | refine z09 ?_ | (show W _ _ _ (.cond _ _ _) _ _; refine z05 rfl ?_) | (refine hN _ ?_; try clear hN hE hR Qs) | ((first | refine hE _ _ ?_ | refine hR _ ?_); try clear hN hE hR Qs) | ((first | refine kN _ ?_ | refine kE _ ?_ | refine kX _ _ rfl ?_ | refine kR _ ?_); try clear kN kE kX kR Qb)) | (refine stpQ ?_))
   (refine z00 (by rfl) ?_ ?_ (by rfl)) <;> (repeat' (first | (exact eqA) | (refine shE ?_) | (refine And.intro ?_ ?_)))
theorem z5Q (es : List (List T)) (hw : WfIt es) (k : Nat) (hk : 0 < k) (hb : k + cnG szIt es ≤ 1000000000000000000) (hl : (es.length : Int) ≤ 1000000000) :
 CT Tryz.prog 68 [.deep 1 es []] [.ref 1, .int .i64 (k : Int)] (.int .i64 ((k + cnG szIt es : Nat) : Int)) [.deep 1 (mkG elIt szIt k es) []] := by
 refine z01 z03 2 rfl Tryz.func68 rfl rfl rfl ?_
 conv => arg 6; whnf
 repeat ((try conv => whnf); first | (with_reducible first | refine z0c (fun Qs hN hE hR => ?_) | refine z0a ?_ | refine z04 (fun Qb kN kE kX kR => ?_) | refine z06 ?_ | refine z07 ?_ | refine z0b ?_ | refine z08 ?_ | refine z09 ?_ | (show W _ _ _ (.cond _ _ _) _ _; refine z05 rfl ?_) | (refine hN _ ?_; try clear hN hE hR Qs) | ((first | refine hE _ _ ?_ | refine hR _ ?_); try clear hN hE hR Qs) | ((first | refine kN _ ?_ | refine kE _ ?_ | refine kX _ _ rfl ?_ | refine kR _ ?_); try clear kN kE kX kR Qb)) | (refine stpQ ?_))
 refine z0n 0 ⟨[(1, .int .i64 ((k + cnG szIt es : Nat) : Int))], [(1, some (.deep 1 (mkG elIt szIt k es) []))], 2⟩ Nat (fun i => ⟨[(0, .ref 1), (1, .int .i64 ((k + cnG szIt (es.take i) : Nat) : Int)), (5, .int .i64 (i : Int))], [(1, some (.deep 1 (rwG elIt szIt k es i) []))], 2⟩) (fun i => i ≤ es.length) (fun i => es.length - i) 0 (Nat.zero_le _) ?_ ?_ ?_
 ·(refine z02 (by rfl) ?_ ?_) <;> (repeat' (first | (exact eqA) | (refine shE ?_) | (refine And.intro ?_ ?_))) <;> first | rfl | decide
 ·intro i hi
  have hlen := z3v elIt szIt (k := k) hi
  by_cases hlt : i < es.length
  ·have f1 : (i : Int) < ((rwG elIt szIt k es i).length : Int) := by omega
   have i1 : i < (rwG elIt szIt k es i).length := by omega
   have g := z5o elIt szIt (k := k) hlt
   have hnx : (rwG elIt szIt k es i).set i [.int .i64 (((k + cnG szIt (es.take i)) : Nat) : Int)] = rwG elIt szIt k es (i + 1) := z2y elIt szIt (k := k) hlt
   have hcn : cnG szIt (es.take (i + 1)) = cnG szIt (es.take i) + 1 := z1e szIt hlt
   have hcl := z23 szIt (es := es) (i := i + 1)
   have e10 : k + cnG szIt (es.take (i + 1)) = (k + cnG szIt (es.take i)) + 1 := by omega
   obtain ⟨a0, he⟩ := hw _ (List.getElem_mem hlt)
   rw [he] at g
   have hnp : 0 < k + cnG szIt (es.take i) := by omega
   have hnb : k + cnG szIt (es.take i) + 1 ≤ 1000000000000000000 := by omega
   generalize rwG elIt szIt k es i = R at *
   generalize k + cnG szIt (es.take i) = n at *
   clear hb hk hcn hcl he hw
   have h1 : ∀ X, i < (R.set i X).length := fun X => by rw [List.length_set]; exact i1
   have gs : ∀ X, (R.set i X)[i]? = some X := fun X => by rw [List.getElem?_set_self i1]
   repeat ((try conv => whnf); first | (with_reducible first | refine z0c (fun Qs hN hE hR => ?_) | refine z0a ?_ | refine z04 (fun Qb kN kE kX kR => ?_) | refine z06 ?_ | refine z07 ?_ | refine z0b ?_ | refine z08 ?_ | refine z09 ?_ | (show W _ _ _ (.cond _ _ _) _ _; refine z05 rfl ?_) | (refine hN _ ?_; try clear hN hE hR Qs) | ((first | refine hE _ _ ?_ | refine hR _ ?_); try clear hN hE hR Qs) | ((first | refine kN _ ?_ | refine kE _ ?_ | refine kX _ _ rfl ?_ | refine kR _ ?_); try clear kN kE kX kR Qb)) | (refine z0o f1 ?_) | (refine And.intro i1 ?_) | (refine And.intro (h1 _) ?_) | (refine Exists.intro _ (And.intro g ?_)) | (refine Exists.intro _ (And.intro (gs _) ?_)) | (refine And.intro (by kernel_rfl) ?_) | (rw [List.set_set]) | (refine stpQ ?_))
   refine ⟨i + 1, hlt, by omega, ?_⟩
   rw [e10]
   (refine z02 (by rfl) ?_ ?_) <;> (repeat' (first | (exact eqA) | (refine shE ?_) | (refine And.intro ?_ ?_))) <;> first | rfl | exact hnx | (rw [List.set_set]; exact hnx)
  ·have hie : i = es.length := by omega
   subst hie
   have f1 : ¬ (es.length : Int) < ((rwG elIt szIt k es es.length).length : Int) := by omega
   repeat ((try conv => whnf); first | (with_reducible first | refine z0c (fun Qs hN hE hR => ?_) | refine z0a ?_ | refine z04 (fun Qb kN kE kX kR => ?_) | refine z06 ?_ | refine z07 ?_ | refine z0b ?_ | refine z08 ?_ | refine z09 ?_ | (show W _ _ _ (.cond _ _ _) _ _; refine z05 rfl ?_) | (refine hN _ ?_; try clear hN hE hR Qs) | ((first | refine hE _ _ ?_ | refine hR _ ?_); try clear hN hE hR Qs) | ((first | refine kN _ ?_ | refine kE _ ?_ | refine kX _ _ rfl ?_ | refine kR _ ?_); try clear kN kE kX kR Qb)) | (refine z0j f1 ?_) | (refine stpQ ?_))
   rw [List.take_length]
   (refine z02 (by rfl) ?_ ?_) <;> (repeat' (first | (exact eqA) | (refine shE ?_) | (refine And.intro ?_ ?_))) <;> first | rfl | exact z2u _ _ _ _
 ·repeat ((try conv => whnf); first | (with_reducible first | refine z0c (fun Qs hN hE hR => ?_) | refine z0a ?_ | refine z04 (fun Qb kN kE kX kR => ?_) | refine z06 ?_ | refine z07 ?_ | refine z0b ?_ | refine z08 ?_ | refine z09 ?_ | (show W _ _ _ (.cond _ _ _) _ _; refine z05 rfl ?_) | (refine hN _ ?_; try clear hN hE hR Qs) | ((first | refine hE _ _ ?_ | refine hR _ ?_); try clear hN hE hR Qs) | ((first | refine kN _ ?_ | refine kE _ ?_ | refine kX _ _ rfl ?_ | refine kR _ ?_); try clear kN kE kX kR Qb)) | (refine stpQ ?_))
  (refine z00 (by rfl) ?_ ?_ (by rfl)) <;> (repeat' (first | (exact eqA) | (refine shE ?_) | (refine And.intro ?_ ?_)))
theorem z5R (es : List (List T)) (k : Nat) (hk : 0 < k) (hb : k + cnG szIt es ≤ 1000000000000000000) (hl : (es.length : Int) ≤ 1000000000) :
 CT Tryz.prog 72 [.deep 1 (mkG elIt szIt k es) []] [.ref 1, .int .i64 (k : Int)] (.int .i64 ((k + cnG szIt es : Nat) : Int)) [.deep 1 (mkG elIt szIt k es) []] := by
 have hlen := z1O elIt szIt k es
 refine z01 z03 2 rfl Tryz.func72 rfl rfl rfl ?_
 conv => arg 6; whnf
 repeat ((try conv => whnf); first | (with_reducible first | refine z0c (fun Qs hN hE hR => ?_) | refine z0a ?_ | refine z04 (fun Qb kN kE kX kR => ?_) | refine z06 ?_ | refine z07 ?_ | refine z0b ?_ | refine z08 ?_ | refine z09 ?_ | (show W _ _ _ (.cond _ _ _) _ _; refine z05 rfl ?_) | (refine hN _ ?_; try clear hN hE hR Qs) | ((first | refine hE _ _ ?_ | refine hR _ ?_); try clear hN hE hR Qs) | ((first | refine kN _ ?_ | refine kE _ ?_ | refine kX _ _ rfl ?_ | refine kR _ ?_); try clear kN kE kX kR Qb)) | (refine stpQ ?_))
 refine z1C Nat (fun i => ⟨[(0, .ref 1), (1, .int .i64 ((k + cnG szIt (es.take i) : Nat) : Int)), (5, .int .i64 (i : Int))], [(1, some (.deep 1 (mkG elIt szIt k es) []))], 2⟩) (fun i => i ≤ es.length) (fun i => es.length - i) 0 (Nat.zero_le _) ?_ ?_
 ·(refine z02 (by rfl) ?_ ?_) <;> (repeat' (first | (exact eqA) | (refine shE ?_) | (refine And.intro ?_ ?_))) <;> first | rfl | decide
 ·intro Q1 hQ1 i hi
  by_cases hlt : i < es.length
  ·have f1 : (i : Int) < ((mkG elIt szIt k es).length : Int) := by omega
   have i1 : i < (mkG elIt szIt k es).length := by omega
   have g : (mkG elIt szIt k es)[i]? = some [.int .i64 (((k + cnG szIt (es.take i)) : Nat) : Int)] := z3u elIt szIt k hlt
   have hcn : cnG szIt (es.take (i + 1)) = cnG szIt (es.take i) + 1 := z1e szIt hlt
   have hcl := z23 szIt (es := es) (i := i + 1)
   have e10 : k + cnG szIt (es.take (i + 1)) = (k + cnG szIt (es.take i)) + 1 := by omega
   have hnp : 0 < k + cnG szIt (es.take i) := by omega
   have hnb : k + cnG szIt (es.take i) + 1 ≤ 1000000000000000000 := by omega
   generalize mkG elIt szIt k es = R at *
   generalize k + cnG szIt (es.take i) = n at *
   clear hb hk hcn hcl
   have q0 : ((n : Nat) : Int) = ((n : Nat) : Int) := rfl
   repeat ((try conv => whnf); first | (with_reducible first | refine z0c (fun Qs hN hE hR => ?_) | refine z0a ?_ | refine z04 (fun Qb kN kE kX kR => ?_) | refine z06 ?_ | refine z07 ?_ | refine z0b ?_ | refine z08 ?_ | refine z09 ?_ | (show W _ _ _ (.cond _ _ _) _ _; refine z05 rfl ?_) | (refine hN _ ?_; try clear hN hE hR Qs) | ((first | refine hE _ _ ?_ | refine hR _ ?_); try clear hN hE hR Qs) | ((first | refine kN _ ?_ | refine kE _ ?_ | refine kX _ _ rfl ?_ | refine kR _ ?_); try clear kN kE kX kR Qb)) | (refine z0o f1 ?_) | (refine And.intro i1 ?_) | (refine Exists.intro _ (And.intro g ?_)) | (refine z0S q0 ?_) | (refine And.intro (by kernel_rfl) ?_) | (refine stpQ ?_))
   refine ⟨i + 1, hlt, by omega, ?_⟩
   rw [e10]
   (refine z02 (by rfl) ?_ ?_) <;> (repeat' (first | (exact eqA) | (refine shE ?_) | (refine And.intro ?_ ?_)))
  ·have hie : i = es.length := by omega
   subst hie
   have f1 : ¬ (es.length : Int) < ((mkG elIt szIt k es).length : Int) := by omega
   repeat ((try conv => whnf); first | (with_reducible first | refine z0c (fun Qs hN hE hR => ?_) | refine z0a ?_ | refine z04 (fun Qb kN kE kX kR => ?_) | refine z06 ?_ | refine z07 ?_ | refine z0b ?_ | refine z08 ?_ | refine z09 ?_ | (show W _ _ _ (.cond _ _ _) _ _; refine z05 rfl ?_) | (refine hN _ ?_; try clear hN hE hR Qs) | ((first | refine hE _ _ ?_ | refine hR _ ?_); try clear hN hE hR Qs) | ((first | refine kN _ ?_ | refine kE _ ?_ | refine kX _ _ rfl ?_ | refine kR _ ?_); try clear kN kE kX kR Qb)) | (refine z0j f1 ?_) | (refine stpQ ?_))
   refine hQ1 _ _ ?_
   clear hQ1 Q1
   rw [List.take_length]
   repeat ((try conv => whnf); first | (with_reducible first | refine z0c (fun Qs hN hE hR => ?_) | refine z0a ?_ | refine z04 (fun Qb kN kE kX kR => ?_) | refine z06 ?_ | refine z07 ?_ | refine z0b ?_ | refine z08 ?_ | refine z09 ?_ | (show W _ _ _ (.cond _ _ _) _ _; refine z05 rfl ?_) | (refine hN _ ?_; try clear hN hE hR Qs) | ((first | refine hE _ _ ?_ | refine hR _ ?_); try clear hN hE hR Qs) | ((first | refine kN _ ?_ | refine kE _ ?_ | refine kX _ _ rfl ?_ | refine kR _ ?_); try clear kN kE kX kR Qb)) | (refine stpQ ?_))
   (refine z00 (by rfl) ?_ ?_ (by rfl)) <;> (repeat' (first | (exact eqA) | (refine shE ?_) | (refine And.intro ?_ ?_)))
theorem zcb (es : List (List T)) (hw : WfBo es) (k : Nat) (hk : 0 < k) (hb : k + cnG szBo es ≤ 1000000000000000000) (hl : (es.length : Int) ≤ 1000000000) :
 CT Tryz.prog 69 [.deep 1 es []] [.ref 1, .int .i64 (k : Int)] (.int .i64 ((k + cnG szBo es : Nat) : Int)) [.deep 1 (mkG elBo szBo k es) []] := by
 refine z01 z03 2 rfl Tryz.func69 rfl rfl rfl ?_
 conv => arg 6; whnf
 repeat ((try conv => whnf); first | (with_reducible first | refine z0c (fun Qs hN hE hR => ?_) | refine z0a ?_ | refine z04 (fun Qb kN kE kX kR => ?_) | refine z06 ?_ | refine z07 ?_ | refine z0b ?_ | refine z08 ?_ | refine z09 ?_ | (show W _ _ _ (.cond _ _ _) _ _; refine z05 rfl ?_) | (refine hN _ ?_; try clear hN hE hR Qs) | ((first | refine hE _ _ ?_ | refine hR _ ?_); try clear hN hE hR Qs) | ((first | refine kN _ ?_ | refine kE _ ?_ | refine kX _ _ rfl ?_ | refine kR _ ?_); try clear kN kE kX kR Qb)) | (refine stpQ ?_))
 refine z0n 0 ⟨[(1, .int .i64 ((k + cnG szBo es : Nat) : Int))], [(1, some (.deep 1 (mkG elBo szBo k es) []))], 2⟩ Nat (fun i => ⟨[(0, .ref 1), (1, .int .i64 ((k + cnG szBo (es.take i) : Nat) : Int)), (5, .int .i64 (i : Int))], [(1, some (.deep 1 (rwG elBo szBo k es i) []))], 2⟩) (fun i => i ≤ es.length) (fun i => es.length - i) 0 (Nat.zero_le _) ?_ ?_ ?_
 ·(refine z02 (by rfl) ?_ ?_) <;> (repeat' (first | (exact eqA) | (refine shE ?_) | (refine And.intro ?_ ?_))) <;> first | rfl | decide
 ·intro i hi
  have hlen := z3v elBo szBo (k := k) hi
  by_cases hlt : i < es.length
  ·have f1 : (i : Int) < ((rwG elBo szBo k es i).length : Int) := by omega
   have i1 : i < (rwG elBo szBo k es i).length := by omega
   have g := z5o elBo szBo (k := k) hlt
   have hnx : (rwG elBo szBo k es i).set i [.bool (decide ((((k + cnG szBo (es.take i)) : Nat) : Int).tmod 3 = 0))] = rwG elBo szBo k es (i + 1) := z2y elBo szBo (k := k) hlt
   have hcn : cnG szBo (es.take (i + 1)) = cnG szBo (es.take i) + 1 := z1e szBo hlt
   have hcl := z23 szBo (es := es) (i := i + 1)
   have e10 : k + cnG szBo (es.take (i + 1)) = (k + cnG szBo (es.take i)) + 1 := by omega
   obtain ⟨a0, he⟩ := hw _ (List.getElem_mem hlt)
   rw [he] at g
   have hnp : 0 < k + cnG szBo (es.take i) := by omega
   have hnb : k + cnG szBo (es.take i) + 1 ≤ 1000000000000000000 := by omega
   generalize rwG elBo szBo k es i = R at *
   generalize k + cnG szBo (es.take i) = n at *
   clear hb hk hcn hcl he hw
   have h1 : ∀ X, i < (R.set i X).length := fun X => by rw [List.length_set]; exact i1
   have gs : ∀ X, (R.set i X)[i]? = some X := fun X => by rw [List.getElem?_set_self i1]
   repeat ((try conv => whnf); first | (with_reducible first | refine z0c (fun Qs hN hE hR => ?_) | refine z0a ?_ | refine z04 (fun Qb kN kE kX kR => ?_) | refine z06 ?_ | refine z07 ?_ | refine z0b ?_ | refine z08 ?_ | refine z09 ?_ | (show W _ _ _ (.cond _ _ _) _ _; refine z05 rfl ?_) | (refine hN _ ?_; try clear hN hE hR Qs) | ((first | refine hE _ _ ?_ | refine hR _ ?_); try clear hN hE hR Qs) | ((first | refine kN _ ?_ | refine kE _ ?_ | refine kX _ _ rfl ?_ | refine kR _ ?_); try clear kN kE kX kR Qb)) | (refine z0o f1 ?_) | (refine And.intro i1 ?_) | (refine And.intro (h1 _) ?_) | (refine Exists.intro _ (And.intro g ?_)) | (refine Exists.intro _ (And.intro (gs _) ?_)) | (refine And.intro (by kernel_rfl) ?_) | (rw [List.set_set]) | (refine stpQ ?_))
   refine ⟨i + 1, hlt, by omega, ?_⟩
   rw [e10]
   (refine z02 (by rfl) ?_ ?_) <;> (repeat' (first | (exact eqA) | (refine shE ?_) | (refine And.intro ?_ ?_))) <;> first | rfl | exact hnx | (rw [List.set_set]; exact hnx)
  ·have hie : i = es.length := by omega
   subst hie
   have f1 : ¬ (es.length : Int) < ((rwG elBo szBo k es es.length).length : Int) := by omega
   repeat ((try conv => whnf); first | (with_reducible first | refine z0c (fun Qs hN hE hR => ?_) | refine z0a ?_ | refine z04 (fun Qb kN kE kX kR => ?_) | refine z06 ?_ | refine z07 ?_ | refine z0b ?_ | refine z08 ?_ | refine z09 ?_ | (show W _ _ _ (.cond _ _ _) _ _; refine z05 rfl ?_) | (refine hN _ ?_; try clear hN hE hR Qs) | ((first | refine hE _ _ ?_ | refine hR _ ?_); try clear hN hE hR Qs) | ((first | refine kN _ ?_ | refine kE _ ?_ | refine kX _ _ rfl ?_ | refine kR _ ?_); try clear kN kE kX kR Qb)) | (refine z0j f1 ?_) | (refine stpQ ?_))
   rw [List.take_length]
   (refine z02 (by rfl) ?_ ?_) <;> (repeat' (first | (exact eqA) | (refine shE ?_) | (refine And.intro ?_ ?_))) <;> first | rfl | exact z2u _ _ _ _
 ·repeat ((try conv => whnf); first | (with_reducible first | refine z0c (fun Qs hN hE hR => ?_) | refine z0a ?_ | refine z04 (fun Qb kN kE kX kR => ?_) | refine z06 ?_ | refine z07 ?_ | refine z0b ?_ | refine z08 ?_ | refine z09 ?_ | (show W _ _ _ (.cond _ _ _) _ _; refine z05 rfl ?_) | (refine hN _ ?_; try clear hN hE hR Qs) | ((first | refine hE _ _ ?_ | refine hR _ ?_); try clear hN hE hR Qs) | ((first | refine kN _ ?_ | refine kE _ ?_ | refine kX _ _ rfl ?_ | refine kR _ ?_); try clear kN kE kX kR Qb)) | (refine stpQ ?_))
  (refine z00 (by rfl) ?_ ?_ (by rfl)) <;> (repeat' (first | (exact eqA) | (refine shE ?_) | (refine And.intro ?_ ?_)))
theorem zcc (es : List (List T)) (k : Nat) (hk : 0 < k) (hb : k + cnG szBo es ≤ 1000000000000000000) (hl : (es.length : Int) ≤ 1000000000) :
 CT Tryz.prog 73 [.deep 1 (mkG elBo szBo k es) []] [.ref 1, .int .i64 (k : Int)] (.int .i64 ((k + cnG szBo es : Nat) : Int)) [.deep 1 (mkG elBo szBo k es) []] := by
 have hlen := z1O elBo szBo k es
 refine z01 z03 2 rfl Tryz.func73 rfl rfl rfl ?_
 conv => arg 6; whnf
 repeat ((try conv => whnf); first | (with_reducible first | refine z0c (fun Qs hN hE hR => ?_) | refine z0a ?_ | refine z04 (fun Qb kN kE kX kR => ?_) | refine z06 ?_ | refine z07 ?_ | refine z0b ?_ | refine z08 ?_ | refine z09 ?_ | (show W _ _ _ (.cond _ _ _) _ _; refine z05 rfl ?_) | (refine hN _ ?_; try clear hN hE hR Qs) | ((first | refine hE _ _ ?_ | refine hR _ ?_); try clear hN hE hR Qs) | ((first | refine kN _ ?_ | refine kE _ ?_ | refine kX _ _ rfl ?_ | refine kR _ ?_); try clear kN kE kX kR Qb)) | (refine stpQ ?_))
 refine z1C Nat (fun i => ⟨[(0, .ref 1), (1, .int .i64 ((k + cnG szBo (es.take i) : Nat) : Int)), (5, .int .i64 (i : Int))], [(1, some (.deep 1 (mkG elBo szBo k es) []))], 2⟩) (fun i => i ≤ es.length) (fun i => es.length - i) 0 (Nat.zero_le _) ?_ ?_
 ·(refine z02 (by rfl) ?_ ?_) <;> (repeat' (first | (exact eqA) | (refine shE ?_) | (refine And.intro ?_ ?_))) <;> first | rfl | decide
 ·intro Q1 hQ1 i hi
  by_cases hlt : i < es.length
  ·have f1 : (i : Int) < ((mkG elBo szBo k es).length : Int) := by omega
   have i1 : i < (mkG elBo szBo k es).length := by omega
   have g : (mkG elBo szBo k es)[i]? = some [.bool (decide ((((k + cnG szBo (es.take i)) : Nat) : Int).tmod 3 = 0))] := z3u elBo szBo k hlt
   have hcn : cnG szBo (es.take (i + 1)) = cnG szBo (es.take i) + 1 := z1e szBo hlt
   have hcl := z23 szBo (es := es) (i := i + 1)
   have e10 : k + cnG szBo (es.take (i + 1)) = (k + cnG szBo (es.take i)) + 1 := by omega
   have hnp : 0 < k + cnG szBo (es.take i) := by omega
   have hnb : k + cnG szBo (es.take i) + 1 ≤ 1000000000000000000 := by omega
   generalize mkG elBo szBo k es = R at *
   generalize k + cnG szBo (es.take i) = n at *
   clear hb hk hcn hcl
   have q0 : decide (((n : Nat) : Int).tmod 3 = 0) = decide (((n : Nat) : Int).tmod 3 = 0) := rfl
   repeat ((try conv => whnf); first | (with_reducible first | refine z0c (fun Qs hN hE hR => ?_) | refine z0a ?_ | refine z04 (fun Qb kN kE kX kR => ?_) | refine z06 ?_ | refine z07 ?_ | refine z0b ?_ | refine z08 ?_ | refine z09 ?_ | (show W _ _ _ (.cond _ _ _) _ _; refine z05 rfl ?_) | (refine hN _ ?_; try clear hN hE hR Qs) | ((first | refine hE _ _ ?_ | refine hR _ ?_); try clear hN hE hR Qs) | ((first | refine kN _ ?_ | refine kE _ ?_ | refine kX _ _ rfl ?_ | refine kR _ ?_); try clear kN kE kX kR Qb)) | (refine z0o f1 ?_) | (refine And.intro i1 ?_) | (refine Exists.intro _ (And.intro g ?_)) | (refine z0S q0 ?_) | (refine And.intro (by kernel_rfl) ?_) | (refine stpQ ?_))
   refine ⟨i + 1, hlt, by omega, ?_⟩
   rw [e10]
   (refine z02 (by rfl) ?_ ?_) <;> (repeat' (first | (exact eqA) | (refine shE ?_) | (refine And.intro ?_ ?_)))
  ·have hie : i = es.length := by omega
   subst hie
   have f1 : ¬ (es.length : Int) < ((mkG elBo szBo k es).length : Int) := by omega
   repeat ((try conv => whnf); first | (with_reducible first | refine z0c (fun Qs hN hE hR => ?_) | refine z0a ?_ | refine z04 (fun Qb kN kE kX kR => ?_) | refine z06 ?_ | refine z07 ?_ | refine z0b ?_ | refine z08 ?_ | refine z09 ?_ | (show W _ _ _ (.cond _ _ _) _ _; refine z05 rfl ?_) | (refine hN _ ?_; try clear hN hE hR Qs) | ((first | refine hE _ _ ?_ | refine hR _ ?_); try clear hN hE hR Qs) | ((first | refine kN _ ?_ | refine kE _ ?_ | refine kX _ _ rfl ?_ | refine kR _ ?_); try clear kN kE kX kR Qb)) | (refine z0j f1 ?_) | (refine stpQ ?_))
   refine hQ1 _ _ ?_
   clear hQ1 Q1
   rw [List.take_length]
   repeat ((try conv => whnf); first | (with_reducible first | refine z0c (fun Qs hN hE hR => ?_) | refine z0a ?_ | refine z04 (fun Qb kN kE kX kR => ?_) | refine z06 ?_ | refine z07 ?_ | refine z0b ?_ | refine z08 ?_ | refine z09 ?_ | (show W _ _ _ (.cond _ _ _) _ _; refine z05 rfl ?_) | (refine hN _ ?_; try clear hN hE hR Qs) | ((first | refine hE _ _ ?_ | refine hR _ ?_); try clear hN hE hR Qs) | ((first | refine kN _ ?_ | refine kE _ ?_ | refine kX _ _ rfl ?_ | refine kR _ ?_); try clear kN kE kX kR Qb)) | (refine stpQ ?_))
   (refine z00 (by rfl) ?_ ?_ (by rfl)) <;> (repeat' (first | (exact eqA) | (refine shE ?_) | (refine And.intro ?_ ?_)))
theorem z7x (es : List (List T)) (hw : WfFl es) (k : Nat) (hk : 0 < k) (hb : k + cnG szFl es ≤ 1000000000000000000) (hl : (es.length : Int) ≤ 1000000000) :
 CT Tryz.prog 66 [.deep 3 es []] [.ref 1, .int .i64 (k : Int)] (.int .i64 ((k + cnG szFl es : Nat) : Int)) [.deep 3 (mkG elFl szFl k es) []] := by
 refine z01 z03 2 rfl Tryz.func66 rfl rfl rfl ?_
 conv => arg 6; whnf
 repeat ((try conv => whnf); first | (with_reducible first | refine z0c (fun Qs hN hE hR => ?_) | refine z0a ?_ | refine z04 (fun Qb kN kE kX kR => ?_) | refine z06 ?_ | refine z07 ?_ | refine z0b ?_ | refine z08 ?_ | refine z09 ?_ | (show W _ _ _ (.cond _ _ _) _ _; refine z05 rfl ?_) | (refine hN _ ?_; try clear hN hE hR Qs) | ((first | refine hE _ _ ?_ | refine hR _ ?_); try clear hN hE hR Qs) | ((first | refine kN _ ?_ | refine kE _ ?_ | refine kX _ _ rfl ?_ | refine kR _ ?_); try clear kN kE kX kR Qb)) | (refine stpQ ?_))
 refine z0n 0 ⟨[(1, .int .i64 ((k + cnG szFl es : Nat) : Int))], [(1, some (.deep 3 (mkG elFl szFl k es) []))], 2⟩ Nat (fun i => ⟨[(0, .ref 1), (1, .int .i64 ((k + cnG szFl (es.take i) : Nat) : Int)), (5, .int .i64 (i : Int))], [(1, some (.deep 3 (rwG elFl szFl k es i) []))], 2⟩) (fun i => i ≤ es.length) (fun i => es.length - i) 0 (Nat.zero_le _) ?_ ?_ ?_
 ·(refine z02 (by rfl) ?_ ?_) <;> (repeat' (first | (exact eqA) | (refine shE ?_) | (refine And.intro ?_ ?_))) <;> first | rfl | decide
 ·intro i hi
  have hlen := z3v elFl szFl (k := k) hi
  by_cases hlt : i < es.length
  ·have f1 : (i : Int) < ((rwG elFl szFl k es i).length : Int) := by omega
   have i1 : i < (rwG elFl szFl k es i).length := by omega
   have g := z5o elFl szFl (k := k) hlt
   have hnx : (rwG elFl szFl k es i).set i [.str (z0p ((k + cnG szFl (es.take i)))), .str (z0p ((k + cnG szFl (es.take i)) + 1)), .int .i64 (((k + cnG szFl (es.take i)) + 1 + 1 : Nat) : Int)] = rwG elFl szFl k es (i + 1) := z2y elFl szFl (k := k) hlt
   have hcn : cnG szFl (es.take (i + 1)) = cnG szFl (es.take i) + 3 := z1e szFl hlt
   have hcl := z23 szFl (es := es) (i := i + 1)
   have e10 : k + cnG szFl (es.take (i + 1)) = (k + cnG szFl (es.take i)) + 1 + 1 + 1 := by omega
   obtain ⟨a0, a1, a2, he⟩ := hw _ (List.getElem_mem hlt)
   rw [he] at g
   have hnp : 0 < k + cnG szFl (es.take i) := by omega
   have hnb : k + cnG szFl (es.take i) + 3 ≤ 1000000000000000000 := by omega
   generalize rwG elFl szFl k es i = R at *
   generalize k + cnG szFl (es.take i) = n at *
   clear hb hk hcn hcl he hw
   have m0 := z0I (n) (by omega) (by omega)
   generalize z0p (n) = t0 at *
   have m1 := z0I (n + 1) (by omega) (by omega)
   generalize z0p (n + 1) = t1 at *
   have h1 : ∀ X, i < (R.set i X).length := fun X => by rw [List.length_set]; exact i1
   have gs : ∀ X, (R.set i X)[i]? = some X := fun X => by rw [List.getElem?_set_self i1]
   repeat ((try conv => whnf); first | (with_reducible first | refine z0c (fun Qs hN hE hR => ?_) | refine z0a ?_ | refine z04 (fun Qb kN kE kX kR => ?_) | refine z06 ?_ | refine z07 ?_ | refine z0b ?_ | refine z08 ?_ | refine z09 ?_ | (show W _ _ _ (.cond _ _ _) _ _; refine z05 rfl ?_) | (refine hN _ ?_; try clear hN hE hR Qs) | ((first | refine hE _ _ ?_ | refine hR _ ?_); try clear hN hE hR Qs) | ((first | refine kN _ ?_ | refine kE _ ?_ | refine kX _ _ rfl ?_ | refine kR _ ?_); try clear kN kE kX kR Qb)) | (refine z0o f1 ?_) | (refine And.intro i1 ?_) | (refine And.intro (h1 _) ?_) | (refine Exists.intro _ (And.intro g ?_)) | (refine Exists.intro _ (And.intro (gs _) ?_)) | (refine ccA ([]) (m0) ?_) | (refine ccA ([]) (m1) ?_) | (refine And.intro (by kernel_rfl) ?_) | (rw [List.set_set]) | (refine stpQ ?_))
   refine ⟨i + 1, hlt, by omega, ?_⟩
   rw [e10]
   (refine z02 (by rfl) ?_ ?_) <;> (repeat' (first | (exact eqA) | (refine shE ?_) | (refine And.intro ?_ ?_))) <;> first | rfl | exact hnx | (rw [List.set_set]; exact hnx)
  ·have hie : i = es.length := by omega
   subst hie
   have f1 : ¬ (es.length : Int) < ((rwG elFl szFl k es es.length).length : Int) := by omega
   repeat ((try conv => whnf); first | (with_reducible first | refine z0c (fun Qs hN hE hR => ?_) | refine z0a ?_ | refine z04 (fun Qb kN kE kX kR => ?_) | refine z06 ?_ | refine z07 ?_ | refine z0b ?_ | refine z08 ?_ | refine z09 ?_ | (show W _ _ _ (.cond _ _ _) _ _; refine z05 rfl ?_) | (refine hN _ ?_; try clear hN hE hR Qs) | ((first | refine hE _ _ ?_ | refine hR _ ?_); try clear hN hE hR Qs) | ((first | refine kN _ ?_ | refine kE _ ?_ | refine kX _ _ rfl ?_ | refine kR _ ?_); try clear kN kE kX kR Qb)) | (refine z0j f1 ?_) | (refine stpQ ?_))
   rw [List.take_length]
   (refine z02 (by rfl) ?_ ?_) <;> (repeat' (first | (exact eqA) | (refine shE ?_) | (refine And.intro ?_ ?_))) <;> first | rfl | exact z2u _ _ _ _
 ·repeat ((try conv => whnf); first | (with_reducible first | refine z0c (fun Qs hN hE hR => ?_) | refine z0a ?_ | refine z04 (fun Qb kN kE kX kR => ?_) | refine z06 ?_ | refine z07 ?_ | refine z0b ?_ | refine z08 ?_ | refine z09 ?_ | (show W _ _ _ (.cond _ _ _) _ _; refine z05 rfl ?_) | (refine hN _ ?_; try clear hN hE hR Qs) | ((first | refine hE _ _ ?_ | refine hR _ ?_); try clear hN hE hR Qs) | ((first | refine kN _ ?_ | refine kE _ ?_ | refine kX _ _ rfl ?_ | refine kR _ ?_); try clear kN kE kX kR Qb)) | (refine stpQ ?_))
  (refine z00 (by rfl) ?_ ?_ (by rfl)) <;> (repeat' (first | (exact eqA) | (refine shE ?_) | (refine And.intro ?_ ?_)))
theorem z7y (es : List (List T)) (k : Nat) (hk : 0 < k) (hb : k + cnG szFl es ≤ 1000000000000000000) (hl : (es.length : Int) ≤ 1000000000) :
 CT Tryz.prog 142 [.deep 3 (mkG elFl szFl k es) []] [.ref 1, .int .i64 (k : Int)] (.int .i64 ((k + cnG szFl es : Nat) : Int)) [.deep 3 (mkG elFl szFl k es) []] := by
 have hlen := z1O elFl szFl k es
 refine z01 z03 2 rfl Tryz.func142 rfl rfl rfl ?_
 conv => arg 6; whnf
 repeat ((try conv => whnf); first | (with_reducible first | refine z0c (fun Qs hN hE hR => ?_) | refine z0a ?_ | refine z04 (fun Qb kN kE kX kR => ?_) | refine z06 ?_ | refine z07 ?_ | refine z0b ?_ | refine z08 ?_ | refine z09 ?_ | (show W _ _ _ (.cond _ _ _) _ _; refine z05 rfl ?_) | (refine hN _ ?_; try clear hN hE hR Qs) | ((first | refine hE _ _ ?_ | refine hR _ ?_); try clear hN hE hR Qs) | ((first | refine kN _ ?_ | refine kE _ ?_ | refine kX _ _ rfl ?_ | refine kR _ ?_); try clear kN kE kX kR Qb)) | (refine stpQ ?_))
 refine z1C Nat (fun i => ⟨[(0, .ref 1), (1, .int .i64 ((k + cnG szFl (es.take i) : Nat) : Int)), (5, .int .i64 (i : Int))], [(1, some (.deep 3 (mkG elFl szFl k es) []))], 2⟩) (fun i => i ≤ es.length) (fun i => es.length - i) 0 (Nat.zero_le _) ?_ ?_
 ·(refine z02 (by rfl) ?_ ?_) <;> (repeat' (first | (exact eqA) | (refine shE ?_) | (refine And.intro ?_ ?_))) <;> first | rfl | decide
 ·intro Q1 hQ1 i hi
  by_cases hlt : i < es.length
  ·have f1 : (i : Int) < ((mkG elFl szFl k es).length : Int) := by omega
   have i1 : i < (mkG elFl szFl k es).length := by omega
   have g : (mkG elFl szFl k es)[i]? = some [.str (z0p ((k + cnG szFl (es.take i)))), .str (z0p ((k + cnG szFl (es.take i)) + 1)), .int .i64 (((k + cnG szFl (es.take i)) + 1 + 1 : Nat) : Int)] := z3u elFl szFl k hlt
   have hcn : cnG szFl (es.take (i + 1)) = cnG szFl (es.take i) + 3 := z1e szFl hlt
   have hcl := z23 szFl (es := es) (i := i + 1)
   have e10 : k + cnG szFl (es.take (i + 1)) = (k + cnG szFl (es.take i)) + 1 + 1 + 1 := by omega
   have hnp : 0 < k + cnG szFl (es.take i) := by omega
   have hnb : k + cnG szFl (es.take i) + 3 ≤ 1000000000000000000 := by omega
   generalize mkG elFl szFl k es = R at *
   generalize k + cnG szFl (es.take i) = n at *
   clear hb hk hcn hcl
   have m0 := z0I (n) (by omega) (by omega)
   generalize z0p (n) = t0 at *
   have r0 : t0 = t0 := rfl
   have m1 := z0I (n + 1) (by omega) (by omega)
   generalize z0p (n + 1) = t1 at *
   have r1 : t1 = t1 := rfl
   have q2 : ((n + 1 + 1 : Nat) : Int) = ((n + 1 + 1 : Nat) : Int) := rfl
   repeat ((try conv => whnf); first | (with_reducible first | refine z0c (fun Qs hN hE hR => ?_) | refine z0a ?_ | refine z04 (fun Qb kN kE kX kR => ?_) | refine z06 ?_ | refine z07 ?_ | refine z0b ?_ | refine z08 ?_ | refine z09 ?_ | (show W _ _ _ (.cond _ _ _) _ _; refine z05 rfl ?_) | (refine hN _ ?_; try clear hN hE hR Qs) | ((first | refine hE _ _ ?_ | refine hR _ ?_); try clear hN hE hR Qs) | ((first | refine kN _ ?_ | refine kE _ ?_ | refine kX _ _ rfl ?_ | refine kR _ ?_); try clear kN kE kX kR Qb)) | (refine z0o f1 ?_) | (refine And.intro i1 ?_) | (refine Exists.intro _ (And.intro g ?_)) | (refine ccA ([]) (m0) ?_) | (refine ccA ([]) (m1) ?_) | (refine z0S r0 ?_) | (refine z0S r1 ?_) | (refine z0S q2 ?_) | (refine And.intro (by kernel_rfl) ?_) | (refine stpQ ?_))
   refine ⟨i + 1, hlt, by omega, ?_⟩
   rw [e10]
   (refine z02 (by rfl) ?_ ?_) <;> (repeat' (first | (exact eqA) | (refine shE ?_) | (refine And.intro ?_ ?_)))
  ·have hie : i = es.length := by omega
   subst hie
   have f1 : ¬ (es.length : Int) < ((mkG elFl szFl k es).length : Int) := by omega
   repeat ((try conv => whnf); first | (with_reducible first | refine z0c (fun Qs hN hE hR => ?_) | refine z0a ?_ | refine z04 (fun Qb kN kE kX kR => ?_) | refine z06 ?_ | refine z07 ?_ | refine z0b ?_ | refine z08 ?_ | refine z09 ?_ | (show W _ _ _ (.cond _ _ _) _ _; refine z05 rfl ?_) | (refine hN _ ?_; try clear hN hE hR Qs) | ((first | refine hE _ _ ?_ | refine hR _ ?_); try clear hN hE hR Qs) | ((first | refine kN _ ?_ | refine kE _ ?_ | refine kX _ _ rfl ?_ | refine kR _ ?_); try clear kN kE kX kR Qb)) | (refine z0j f1 ?_) | (refine stpQ ?_))
   refine hQ1 _ _ ?_
   clear hQ1 Q1
   rw [List.take_length]
   repeat ((try conv => whnf); first | (with_reducible first | refine z0c (fun Qs hN hE hR => ?_) | refine z0a ?_ | refine z04 (fun Qb kN kE kX kR => ?_) | refine z06 ?_ | refine z07 ?_ | refine z0b ?_ | refine z08 ?_ | refine z09 ?_ | (show W _ _ _ (.cond _ _ _) _ _; refine z05 rfl ?_) | (refine hN _ ?_; try clear hN hE hR Qs) | ((first | refine hE _ _ ?_ | refine hR _ ?_); try clear hN hE hR Qs) | ((first | refine kN _ ?_ | refine kE _ ?_ | refine kX _ _ rfl ?_ | refine kR _ ?_); try clear kN kE kX kR Qb)) | (refine stpQ ?_))
   (refine z00 (by rfl) ?_ ?_ (by rfl)) <;> (repeat' (first | (exact eqA) | (refine shE ?_) | (refine And.intro ?_ ?_)))
theorem zcd (es : List (List T)) (hw : WfLf es) (k : Nat) (hk : 0 < k) (hb : k + cnG szLf es ≤ 1000000000000000000) (hl : (es.length : Int) ≤ 1000000000) :
 CT Tryz.prog 125 [.deep 2 es []] [.ref 1, .int .i64 (k : Int)] (.int .i64 ((k + cnG szLf es : Nat) : Int)) [.deep 2 (mkG elLf szLf k es) []] := by
 refine z01 z03 2 rfl Tryz.func125 rfl rfl rfl ?_
 conv => arg 6; whnf
 repeat ((try conv => whnf); first | (with_reducible first | refine z0c (fun Qs hN hE hR => ?_) | refine z0a ?_ | refine z04 (fun Qb kN kE kX kR => ?_) | refine z06 ?_ | refine z07 ?_ | refine z0b ?_ | refine z08 ?_ | refine z09 ?_ | (show W _ _ _ (.cond _ _ _) _ _; refine z05 rfl ?_) | (refine hN _ ?_; try clear hN hE hR Qs) | ((first | refine hE _ _ ?_ | refine hR _ ?_); try clear hN hE hR Qs) | ((first | refine kN _ ?_ | refine kE _ ?_ | refine kX _ _ rfl ?_ | refine kR _ ?_); try clear kN kE kX kR Qb)) | (refine stpQ ?_))
 refine z0n 0 ⟨[(1, .int .i64 ((k + cnG szLf es : Nat) : Int))], [(1, some (.deep 2 (mkG elLf szLf k es) []))], 2⟩ Nat (fun i => ⟨[(0, .ref 1), (1, .int .i64 ((k + cnG szLf (es.take i) : Nat) : Int)), (5, .int .i64 (i : Int))], [(1, some (.deep 2 (rwG elLf szLf k es i) []))], 2⟩) (fun i => i ≤ es.length) (fun i => es.length - i) 0 (Nat.zero_le _) ?_ ?_ ?_
 ·(refine z02 (by rfl) ?_ ?_) <;> (repeat' (first | (exact eqA) | (refine shE ?_) | (refine And.intro ?_ ?_))) <;> first | rfl | decide
 ·intro i hi
  have hlen := z3v elLf szLf (k := k) hi
  by_cases hlt : i < es.length
  ·have f1 : (i : Int) < ((rwG elLf szLf k es i).length : Int) := by omega
   have i1 : i < (rwG elLf szLf k es i).length := by omega
   have g := z5o elLf szLf (k := k) hlt
   have hnx : (rwG elLf szLf k es i).set i [.str (z0p ((k + cnG szLf (es.take i)))), .str (z0p ((k + cnG szLf (es.take i)) + 1))] = rwG elLf szLf k es (i + 1) := z2y elLf szLf (k := k) hlt
   have hcn : cnG szLf (es.take (i + 1)) = cnG szLf (es.take i) + 2 := z1e szLf hlt
   have hcl := z23 szLf (es := es) (i := i + 1)
   have e10 : k + cnG szLf (es.take (i + 1)) = (k + cnG szLf (es.take i)) + 1 + 1 := by omega
   obtain ⟨a0, a1, he⟩ := hw _ (List.getElem_mem hlt)
   rw [he] at g
   have hnp : 0 < k + cnG szLf (es.take i) := by omega
   have hnb : k + cnG szLf (es.take i) + 2 ≤ 1000000000000000000 := by omega
   generalize rwG elLf szLf k es i = R at *
   generalize k + cnG szLf (es.take i) = n at *
   clear hb hk hcn hcl he hw
   have m0 := z0I (n) (by omega) (by omega)
   generalize z0p (n) = t0 at *
   have m1 := z0I (n + 1) (by omega) (by omega)
   generalize z0p (n + 1) = t1 at *
   have h1 : ∀ X, i < (R.set i X).length := fun X => by rw [List.length_set]; exact i1
   have gs : ∀ X, (R.set i X)[i]? = some X := fun X => by rw [List.getElem?_set_self i1]
   repeat ((try conv => whnf); first | (with_reducible first | refine z0c (fun Qs hN hE hR => ?_) | refine z0a ?_ | refine z04 (fun Qb kN kE kX kR => ?_) | refine z06 ?_ | refine z07 ?_ | refine z0b ?_ | refine z08 ?_ | refine z09 ?_ | (show W _ _ _ (.cond _ _ _) _ _; refine z05 rfl ?_) | (refine hN _ ?_; try clear hN hE hR Qs) | ((first | refine hE _ _ ?_ | refine hR _ ?_); try clear hN hE hR Qs) | ((first | refine kN _ ?_ | refine kE _ ?_ | refine kX _ _ rfl ?_ | refine kR _ ?_); try clear kN kE kX kR Qb)) | (refine z0o f1 ?_) | (refine And.intro i1 ?_) | (refine And.intro (h1 _) ?_) | (refine Exists.intro _ (And.intro g ?_)) | (refine Exists.intro _ (And.intro (gs _) ?_)) | (refine ccA ([]) (m0) ?_) | (refine ccA ([]) (m1) ?_) | (refine And.intro (by kernel_rfl) ?_) | (rw [List.set_set]) | (refine stpQ ?_))
   refine ⟨i + 1, hlt, by omega, ?_⟩
   rw [e10]
   (refine z02 (by rfl) ?_ ?_) <;> (repeat' (first | (exact eqA) | (refine shE ?_) | (refine And.intro ?_ ?_))) <;> first | rfl | exact hnx | (rw [List.set_set]; exact hnx)
  ·have hie : i = es.length := by omega
   subst hie
   have f1 : ¬ (es.length : Int) < ((rwG elLf szLf k es es.length).length : Int) := by omega
   repeat ((try conv => whnf); first | (with_reducible first | refine z0c (fun Qs hN hE hR => ?_) | refine z0a ?_ | refine z04 (fun Qb kN kE kX kR => ?_) | refine z06 ?_ | refine z07 ?_ | refine z0b ?_ | refine z08 ?_ | refine z09 ?_ | (show W _ _ _ (.cond _ _ _) _ _; refine z05 rfl ?_) | (refine hN _ ?_; try clear hN hE hR Qs) | ((first | refine hE _ _ ?_ | refine hR _ ?_); try clear hN hE hR Qs) | ((first | refine kN _ ?_ | refine kE _ ?_ | refine kX _ _ rfl ?_ | refine kR _ ?_); try clear kN kE kX kR Qb)) | (refine z0j f1 ?_) | (refine stpQ ?_))
   rw [List.take_length]
   (refine z02 (by rfl) ?_ ?_) <;> (repeat' (first | (exact eqA) | (refine shE ?_) | (refine And.intro ?_ ?_))) <;> first | rfl | exact z2u _ _ _ _
 ·repeat ((try conv => whnf); first | (with_reducible first | refine z0c (fun Qs hN hE hR => ?_) | refine z0a ?_ | refine z04 (fun Qb kN kE kX kR => ?_) | refine z06 ?_ | refine z07 ?_ | refine z0b ?_ | refine z08 ?_ | refine z09 ?_ | (show W _ _ _ (.cond _ _ _) _ _; refine z05 rfl ?_) | (refine hN _ ?_; try clear hN hE hR Qs) | ((first | refine hE _ _ ?_ | refine hR _ ?_); try clear hN hE hR Qs) | ((first | refine kN _ ?_ | refine kE _ ?_ | refine kX _ _ rfl ?_ | refine kR _ ?_); try clear kN kE kX kR Qb)) | (refine stpQ ?_))
  (refine z00 (by rfl) ?_ ?_ (by rfl)) <;> (repeat' (first | (exact eqA) | (refine shE ?_) | (refine And.intro ?_ ?_)))
theorem zce (es : List (List T)) (k : Nat) (hk : 0 < k) (hb : k + cnG szLf es ≤ 1000000000000000000) (hl : (es.length : Int) ≤ 1000000000) :
 CT Tryz.prog 126 [.deep 2 (mkG elLf szLf k es) []] [.ref 1, .int .i64 (k : Int)] (.int .i64 ((k + cnG szLf es : Nat) : Int)) [.deep 2 (mkG elLf szLf k es) []] := by
 have hlen := z1O elLf szLf k es
 refine z01 z03 2 rfl Tryz.func126 rfl rfl rfl ?_
 conv => arg 6; whnf
 repeat ((try conv => whnf); first | (with_reducible first | refine z0c (fun Qs hN hE hR => ?_) | refine z0a ?_ | refine z04 (fun Qb kN kE kX kR => ?_) | refine z06 ?_ | refine z07 ?_ | refine z0b ?_ | refine z08 ?_ | refine z09 ?_ | (show W _ _ _ (.cond _ _ _) _ _; refine z05 rfl ?_) | (refine hN _ ?_; try clear hN hE hR Qs) | ((first | refine hE _ _ ?_ | refine hR _ ?_); try clear hN hE hR Qs) | ((first | refine kN _ ?_ | refine kE _ ?_ | refine kX _ _ rfl ?_ | refine kR _ ?_); try clear kN kE kX kR Qb)) | (refine stpQ ?_))
 refine z1C Nat (fun i => ⟨[(0, .ref 1), (1, .int .i64 ((k + cnG szLf (es.take i) : Nat) : Int)), (5, .int .i64 (i : Int))], [(1, some (.deep 2 (mkG elLf szLf k es) []))], 2⟩) (fun i => i ≤ es.length) (fun i => es.length - i) 0 (Nat.zero_le _) ?_ ?_
 ·(refine z02 (by rfl) ?_ ?_) <;> (repeat' (first | (exact eqA) | (refine shE ?_) | (refine And.intro ?_ ?_))) <;> first | rfl | decide
 ·intro Q1 hQ1 i hi
  by_cases hlt : i < es.length
  ·have f1 : (i : Int) < ((mkG elLf szLf k es).length : Int) := by omega
   have i1 : i < (mkG elLf szLf k es).length := by omega
   have g : (mkG elLf szLf k es)[i]? = some [.str (z0p ((k + cnG szLf (es.take i)))), .str (z0p ((k + cnG szLf (es.take i)) + 1))] := z3u elLf szLf k hlt
   have hcn : cnG szLf (es.take (i + 1)) = cnG szLf (es.take i) + 2 := z1e szLf hlt
   have hcl := z23 szLf (es := es) (i := i + 1)
   have e10 : k + cnG szLf (es.take (i + 1)) = (k + cnG szLf (es.take i)) + 1 + 1 := by omega
   have hnp : 0 < k + cnG szLf (es.take i) := by omega
   have hnb : k + cnG szLf (es.take i) + 2 ≤ 1000000000000000000 := by omega
   generalize mkG elLf szLf k es = R at *
   generalize k + cnG szLf (es.take i) = n at *
   clear hb hk hcn hcl
   have m0 := z0I (n) (by omega) (by omega)
   generalize z0p (n) = t0 at *
   have r0 : t0 = t0 := rfl
   have m1 := z0I (n + 1) (by omega) (by omega)
   generalize z0p (n + 1) = t1 at *
   have r1 : t1 = t1 := rfl
   repeat ((try conv => whnf); first | (with_reducible first | refine z0c (fun Qs hN hE hR => ?_) | refine z0a ?_ | refine z04 (fun Qb kN kE kX kR => ?_) | refine z06 ?_ | refine z07 ?_ | refine z0b ?_ | refine z08 ?_ | refine z09 ?_ | (show W _ _ _ (.cond _ _ _) _ _; refine z05 rfl ?_) | (refine hN _ ?_; try clear hN hE hR Qs) | ((first | refine hE _ _ ?_ | refine hR _ ?_); try clear hN hE hR Qs) | ((first | refine kN _ ?_ | refine kE _ ?_ | refine kX _ _ rfl ?_ | refine kR _ ?_); try clear kN kE kX kR Qb)) | (refine z0o f1 ?_) | (refine And.intro i1 ?_) | (refine Exists.intro _ (And.intro g ?_)) | (refine ccA ([]) (m0) ?_) | (refine ccA ([]) (m1) ?_) | (refine z0S r0 ?_) | (refine z0S r1 ?_) | (refine And.intro (by kernel_rfl) ?_) | (refine stpQ ?_))
   refine ⟨i + 1, hlt, by omega, ?_⟩
   rw [e10]
   (refine z02 (by rfl) ?_ ?_) <;> (repeat' (first | (exact eqA) | (refine shE ?_) | (refine And.intro ?_ ?_)))
  ·have hie : i = es.length := by omega
   subst hie
   have f1 : ¬ (es.length : Int) < ((mkG elLf szLf k es).length : Int) := by omega
   repeat ((try conv => whnf); first | (with_reducible first | refine z0c (fun Qs hN hE hR => ?_) | refine z0a ?_ | refine z04 (fun Qb kN kE kX kR => ?_) | refine z06 ?_ | refine z07 ?_ | refine z0b ?_ | refine z08 ?_ | refine z09 ?_ | (show W _ _ _ (.cond _ _ _) _ _; refine z05 rfl ?_) | (refine hN _ ?_; try clear hN hE hR Qs) | ((first | refine hE _ _ ?_ | refine hR _ ?_); try clear hN hE hR Qs) | ((first | refine kN _ ?_ | refine kE _ ?_ | refine kX _ _ rfl ?_ | refine kR _ ?_); try clear kN kE kX kR Qb)) | (refine z0j f1 ?_) | (refine stpQ ?_))
   refine hQ1 _ _ ?_
   clear hQ1 Q1
   rw [List.take_length]
   repeat ((try conv => whnf); first | (with_reducible first | refine z0c (fun Qs hN hE hR => ?_) | refine z0a ?_ | refine z04 (fun Qb kN kE kX kR => ?_) | refine z06 ?_ | refine z07 ?_ | refine z0b ?_ | refine z08 ?_ | refine z09 ?_ | (show W _ _ _ (.cond _ _ _) _ _; refine z05 rfl ?_) | (refine hN _ ?_; try clear hN hE hR Qs) | ((first | refine hE _ _ ?_ | refine hR _ ?_); try clear hN hE hR Qs) | ((first | refine kN _ ?_ | refine kE _ ?_ | refine kX _ _ rfl ?_ | refine kR _ ?_); try clear kN kE kX kR Qb)) | (refine stpQ ?_))
   (refine z00 (by rfl) ?_ ?_ (by rfl)) <;> (repeat' (first | (exact eqA) | (refine shE ?_) | (refine And.intro ?_ ?_)))
theorem z9n (es : List (List T)) (hw : WfCh es) (k : Nat) (hk : 0 < k) (hb : k + cnG szCh es ≤ 1000000000000000000) (hl : (es.length : Int) ≤ 1000000000) :
 CT Tryz.prog 150 [.deep 3 es []] [.ref 1, .int .i64 (k : Int)] (.int .i64 ((k + cnG szCh es : Nat) : Int)) [.deep 3 (mkG elCh szCh k es) []] := by
 refine z01 z03 2 rfl Tryz.func150 rfl rfl rfl ?_
 conv => arg 6; whnf
 repeat ((try conv => whnf); first | (with_reducible first | refine z0c (fun Qs hN hE hR => ?_) | refine z0a ?_ | refine z04 (fun Qb kN kE kX kR => ?_) | refine z06 ?_ | refine z07 ?_ | refine z0b ?_ | refine z08 ?_ | refine z09 ?_ | (show W _ _ _ (.cond _ _ _) _ _; refine z05 rfl ?_) | (refine hN _ ?_; try clear hN hE hR Qs) | ((first | refine hE _ _ ?_ | refine hR _ ?_); try clear hN hE hR Qs) | ((first | refine kN _ ?_ | refine kE _ ?_ | refine kX _ _ rfl ?_ | refine kR _ ?_); try clear kN kE kX kR Qb)) | (refine stpQ ?_))
 refine z0n 0 ⟨[(1, .int .i64 ((k + cnG szCh es : Nat) : Int))], [(1, some (.deep 3 (mkG elCh szCh k es) []))], 2⟩ Nat (fun i => ⟨[(0, .ref 1), (1, .int .i64 ((k + cnG szCh (es.take i) : Nat) : Int)), (5, .int .i64 (i : Int))], [(1, some (.deep 3 (rwG elCh szCh k es i) []))], 2⟩) (fun i => i ≤ es.length) (fun i => es.length - i) 0 (Nat.zero_le _) ?_ ?_ ?_
 ·(refine z02 (by rfl) ?_ ?_) <;> (repeat' (first | (exact eqA) | (refine shE ?_) | (refine And.intro ?_ ?_))) <;> first | rfl | decide
 ·intro i hi
  have hlen := z3v elCh szCh (k := k) hi
  by_cases hlt : i < es.length
  ·have f1 : (i : Int) < ((rwG elCh szCh k es i).length : Int) := by omega
   have i1 : i < (rwG elCh szCh k es i).length := by omega
   have g := z5o elCh szCh (k := k) hlt
   have hnx : (rwG elCh szCh k es i).set i [.int .i64 (((k + cnG szCh (es.take i)) : Nat) : Int), .str (z0p ((k + cnG szCh (es.take i)) + 1)), .str (z0p ((k + cnG szCh (es.take i)) + 1 + 1))] = rwG elCh szCh k es (i + 1) := z2y elCh szCh (k := k) hlt
   have hcn : cnG szCh (es.take (i + 1)) = cnG szCh (es.take i) + 3 := z1e szCh hlt
   have hcl := z23 szCh (es := es) (i := i + 1)
   have e10 : k + cnG szCh (es.take (i + 1)) = (k + cnG szCh (es.take i)) + 1 + 1 + 1 := by omega
   obtain ⟨a0, a1, a2, he⟩ := hw _ (List.getElem_mem hlt)
   rw [he] at g
   have hnp : 0 < k + cnG szCh (es.take i) := by omega
   have hnb : k + cnG szCh (es.take i) + 3 ≤ 1000000000000000000 := by omega
   generalize rwG elCh szCh k es i = R at *
   generalize k + cnG szCh (es.take i) = n at *
   clear hb hk hcn hcl he hw
   have m1 := z0I (n + 1) (by omega) (by omega)
   generalize z0p (n + 1) = t1 at *
   have m2 := z0I (n + 1 + 1) (by omega) (by omega)
   generalize z0p (n + 1 + 1) = t2 at *
   have h1 : ∀ X, i < (R.set i X).length := fun X => by rw [List.length_set]; exact i1
   have gs : ∀ X, (R.set i X)[i]? = some X := fun X => by rw [List.getElem?_set_self i1]
   repeat ((try conv => whnf); first | (with_reducible first | refine z0c (fun Qs hN hE hR => ?_) | refine z0a ?_ | refine z04 (fun Qb kN kE kX kR => ?_) | refine z06 ?_ | refine z07 ?_ | refine z0b ?_ | refine z08 ?_ | refine z09 ?_ | (show W _ _ _ (.cond _ _ _) _ _; refine z05 rfl ?_) | (refine hN _ ?_; try clear hN hE hR Qs) | ((first | refine hE _ _ ?_ | refine hR _ ?_); try clear hN hE hR Qs) | ((first | refine kN _ ?_ | refine kE _ ?_ | refine kX _ _ rfl ?_ | refine kR _ ?_); try clear kN kE kX kR Qb)) | (refine z0o f1 ?_) | (refine And.intro i1 ?_) | (refine And.intro (h1 _) ?_) | (refine Exists.intro _ (And.intro g ?_)) | (refine Exists.intro _ (And.intro (gs _) ?_)) | (refine ccA ([]) (m1) ?_) | (refine ccA ([]) (m2) ?_) | (refine And.intro (by kernel_rfl) ?_) | (rw [List.set_set]) | (refine stpQ ?_))
   refine ⟨i + 1, hlt, by omega, ?_⟩
   rw [e10]
   (refine z02 (by rfl) ?_ ?_) <;> (repeat' (first | (exact eqA) | (refine shE ?_) | (refine And.intro ?_ ?_))) <;> first | rfl | exact hnx | (rw [List.set_set]; exact hnx)
  ·have hie : i = es.length := by omega
   subst hie
   have f1 : ¬ (es.length : Int) < ((rwG elCh szCh k es es.length).length : Int) := by omega
   repeat ((try conv => whnf); first | (with_reducible first | refine z0c (fun Qs hN hE hR => ?_) | refine z0a ?_ | refine z04 (fun Qb kN kE kX kR => ?_) | refine z06 ?_ | refine z07 ?_ | refine z0b ?_ | refine z08 ?_ | refine z09 ?_ | (show W _ _ _ (.cond _ _ _) _ _; refine z05 rfl ?_) | (refine hN _ ?_; try clear hN hE hR Qs) | ((first | refine hE _ _ ?_ | refine hR _ ?_); try clear hN hE hR Qs) | ((first | refine kN _ ?_ | refine kE _ ?_ | refine kX _ _ rfl ?_ | refine kR _ ?_); try clear kN kE kX kR Qb)) | (refine z0j f1 ?_) | (refine stpQ ?_))
   rw [List.take_length]
   (refine z02 (by rfl) ?_ ?_) <;> (repeat' (first | (exact eqA) | (refine shE ?_) | (refine And.intro ?_ ?_))) <;> first | rfl | exact z2u _ _ _ _
 ·repeat ((try conv => whnf); first | (with_reducible first | refine z0c (fun Qs hN hE hR => ?_) | refine z0a ?_ | refine z04 (fun Qb kN kE kX kR => ?_) | refine z06 ?_ | refine z07 ?_ | refine z0b ?_ | refine z08 ?_ | refine z09 ?_ | (show W _ _ _ (.cond _ _ _) _ _; refine z05 rfl ?_) | (refine hN _ ?_; try clear hN hE hR Qs) | ((first | refine hE _ _ ?_ | refine hR _ ?_); try clear hN hE hR Qs) | ((first | refine kN _ ?_ | refine kE _ ?_ | refine kX _ _ rfl ?_ | refine kR _ ?_); try clear kN kE kX kR Qb)) | (refine stpQ ?_))
  (refine z00 (by rfl) ?_ ?_ (by rfl)) <;> (repeat' (first | (exact eqA) | (refine shE ?_) | (refine And.intro ?_ ?_)))
theorem z9o (es : List (List T)) (k : Nat) (hk : 0 < k) (hb : k + cnG szCh es ≤ 1000000000000000000) (hl : (es.length : Int) ≤ 1000000000) :
 CT Tryz.prog 151 [.deep 3 (mkG elCh szCh k es) []] [.ref 1, .int .i64 (k : Int)] (.int .i64 ((k + cnG szCh es : Nat) : Int)) [.deep 3 (mkG elCh szCh k es) []] := by
 have hlen := z1O elCh szCh k es
 refine z01 z03 2 rfl Tryz.func151 rfl rfl rfl ?_
 conv => arg 6; whnf
 repeat ((try conv => whnf); first | (with_reducible first | refine z0c (fun Qs hN hE hR => ?_) | refine z0a ?_ | refine z04 (fun Qb kN kE kX kR => ?_) | refine z06 ?_ | refine z07 ?_ | refine z0b ?_ | refine z08 ?_ | refine z09 ?_ | (show W _ _ _ (.cond _ _ _) _ _; refine z05 rfl ?_) | (refine hN _ ?_; try clear hN hE hR Qs) | ((first | refine hE _ _ ?_ | refine hR _ ?_); try clear hN hE hR Qs) | ((first | refine kN _ ?_ | refine kE _ ?_ | refine kX _ _ rfl ?_ | refine kR _ ?_); try clear kN kE kX kR Qb)) | (refine stpQ ?_))
 refine z1C Nat (fun i => ⟨[(0, .ref 1), (1, .int .i64 ((k + cnG szCh (es.take i) : Nat) : Int)), (5, .int .i64 (i : Int))], [(1, some (.deep 3 (mkG elCh szCh k es) []))], 2⟩) (fun i => i ≤ es.length) (fun i => es.length - i) 0 (Nat.zero_le _) ?_ ?_
 ·(refine z02 (by rfl) ?_ ?_) <;> (repeat' (first | (exact eqA) | (refine shE ?_) | (refine And.intro ?_ ?_))) <;> first | rfl | decide
 ·intro Q1 hQ1 i hi
  by_cases hlt : i < es.length
  ·have f1 : (i : Int) < ((mkG elCh szCh k es).length : Int) := by omega
   have i1 : i < (mkG elCh szCh k es).length := by omega
   have g : (mkG elCh szCh k es)[i]? = some [.int .i64 (((k + cnG szCh (es.take i)) : Nat) : Int), .str (z0p ((k + cnG szCh (es.take i)) + 1)), .str (z0p ((k + cnG szCh (es.take i)) + 1 + 1))] := z3u elCh szCh k hlt
   have hcn : cnG szCh (es.take (i + 1)) = cnG szCh (es.take i) + 3 := z1e szCh hlt
   have hcl := z23 szCh (es := es) (i := i + 1)
   have e10 : k + cnG szCh (es.take (i + 1)) = (k + cnG szCh (es.take i)) + 1 + 1 + 1 := by omega
   have hnp : 0 < k + cnG szCh (es.take i) := by omega
   have hnb : k + cnG szCh (es.take i) + 3 ≤ 1000000000000000000 := by omega
   generalize mkG elCh szCh k es = R at *
   generalize k + cnG szCh (es.take i) = n at *
   clear hb hk hcn hcl
   have m1 := z0I (n + 1) (by omega) (by omega)
   generalize z0p (n + 1) = t1 at *
   have r1 : t1 = t1 := rfl
   have m2 := z0I (n + 1 + 1) (by omega) (by omega)
   generalize z0p (n + 1 + 1) = t2 at *
   have r2 : t2 = t2 := rfl
   have q0 : ((n : Nat) : Int) = ((n : Nat) : Int) := rfl
   repeat ((try conv => whnf); first | (with_reducible first | refine z0c (fun Qs hN hE hR => ?_) | refine z0a ?_ | refine z04 (fun Qb kN kE kX kR => ?_) | refine z06 ?_ | refine z07 ?_ | refine z0b ?_ | refine z08 ?_ | refine z09 ?_ | (show W _ _ _ (.cond _ _ _) _ _; refine z05 rfl ?_) | (refine hN _ ?_; try clear hN hE hR Qs) | ((first | refine hE _ _ ?_ | refine hR _ ?_); try clear hN hE hR Qs) | ((first | refine kN _ ?_ | refine kE _ ?_ | refine kX _ _ rfl ?_ | refine kR _ ?_); try clear kN kE kX kR Qb)) | (refine z0o f1 ?_) | (refine And.intro i1 ?_) | (refine Exists.intro _ (And.intro g ?_)) | (refine ccA ([]) (m1) ?_) | (refine ccA ([]) (m2) ?_) | (refine z0S r1 ?_) | (refine z0S r2 ?_) | (refine z0S q0 ?_) | (refine And.intro (by kernel_rfl) ?_) | (refine stpQ ?_))
   refine ⟨i + 1, hlt, by omega, ?_⟩
   rw [e10]
   (refine z02 (by rfl) ?_ ?_) <;> (repeat' (first | (exact eqA) | (refine shE ?_) | (refine And.intro ?_ ?_)))
  ·have hie : i = es.length := by omega
   subst hie
   have f1 : ¬ (es.length : Int) < ((mkG elCh szCh k es).length : Int) := by omega
   repeat ((try conv => whnf); first | (with_reducible first | refine z0c (fun Qs hN hE hR => ?_) | refine z0a ?_ | refine z04 (fun Qb kN kE kX kR => ?_) | refine z06 ?_ | refine z07 ?_ | refine z0b ?_ | refine z08 ?_ | refine z09 ?_ | (show W _ _ _ (.cond _ _ _) _ _; refine z05 rfl ?_) | (refine hN _ ?_; try clear hN hE hR Qs) | ((first | refine hE _ _ ?_ | refine hR _ ?_); try clear hN hE hR Qs) | ((first | refine kN _ ?_ | refine kE _ ?_ | refine kX _ _ rfl ?_ | refine kR _ ?_); try clear kN kE kX kR Qb)) | (refine z0j f1 ?_) | (refine stpQ ?_))
   refine hQ1 _ _ ?_
   clear hQ1 Q1
   rw [List.take_length]
   repeat ((try conv => whnf); first | (with_reducible first | refine z0c (fun Qs hN hE hR => ?_) | refine z0a ?_ | refine z04 (fun Qb kN kE kX kR => ?_) | refine z06 ?_ | refine z07 ?_ | refine z0b ?_ | refine z08 ?_ | refine z09 ?_ | (show W _ _ _ (.cond _ _ _) _ _; refine z05 rfl ?_) | (refine hN _ ?_; try clear hN hE hR Qs) | ((first | refine hE _ _ ?_ | refine hR _ ?_); try clear hN hE hR Qs) | ((first | refine kN _ ?_ | refine kE _ ?_ | refine kX _ _ rfl ?_ | refine kR _ ?_); try clear kN kE kX kR Qb)) | (refine stpQ ?_))
   (refine z00 (by rfl) ?_ ?_ (by rfl)) <;> (repeat' (first | (exact eqA) | (refine shE ?_) | (refine And.intro ?_ ?_)))
end
end Go.Proofs.YtnhcfmmdaihneaaGreatDoor
namespace Go.Proofs.YtnhcfmmdaihneaaGreatDoor
set_option maxRecDepth 100000
set_option maxHeartbeats 4000000
set_option linter.unusedVariables false
set_option linter.unusedSimpArgs false
set_option linter.unusedSectionVars false
open Go.RowKit Pl
def z20 (k : Nat) : List T → List T
 | [.own _ o0] => [.own 2 (mkG elLf szLf (k) o0)]
 | e => e
def z0t : List T → Nat
 | [.own _ o0] => 0 + cnG szLf o0
 | _ => 0
def zl8 (es : List (List T)) : Prop := ∀ e ∈ es, ∃ o0 : List (List T), e = [.own 2 o0] ∧ WfLf o0 ∧ (o0.length : Int) ≤ 1000000000
section
attribute [local irreducible] z0w z0x z0A AnsP LeP W
theorem zaT (es : List (List T)) (hw : zl8 es) (k : Nat) (hk : 0 < k) (hb : k + cnG z0t es ≤ 1000000000000000000) (hl : (es.length : Int) ≤ 1000000000) :
 CT Tryz.prog 51 [.deep 1 (es) []] [.ref 1, .int .i64 (k : Int)] (.int .i64 ((k + cnG z0t es : Nat) : Int)) [.deep 1 (mkG z20 z0t k es) []] := by
 refine z01 z03 2 rfl Tryz.func51 rfl rfl rfl ?_
 conv => arg 6; whnf
 repeat ((try conv => whnf); first | (with_reducible first | refine z0c (fun Qs hN hE hR => ?_) | refine z0a ?_ | refine z04 (fun Qb kN kE kX kR => ?_) | refine z06 ?_ | refine z07 ?_ | refine z0b ?_ | refine z08 ?_ | refine z09 ?_ | (show W _ _ _ (.cond _ _ _) _ _; refine z05 rfl ?_) | (refine hN _ ?_; try clear hN hE hR Qs) | ((first | refine hE _ _ ?_ | refine hR _ ?_); try clear hN hE hR Qs) | ((first | refine kN _ ?_ | refine kE _ ?_ | refine kX _ _ rfl ?_ | refine kR _ ?_); try clear kN kE kX kR Qb)) | (refine stpQ ?_))
 refine z37 0 ⟨[(1, .int .i64 ((k + cnG z0t es : Nat) : Int))], [(1, some (.deep 1 (mkG z20 z0t k es) []))], 2⟩ Nat (fun i => ⟨[(0, .ref 1), (1, .int .i64 ((k + cnG z0t (es.take i) : Nat) : Int)), (5, .int .i64 (i : Int))], [(1, some (.deep 1 (rwG z20 z0t k es i) []))], 2⟩) (fun i => i ≤ es.length) (fun i => es.length - i) 0 (Nat.zero_le _) ?_ ?_ ?_
 ·(refine z02 (by rfl) ?_ ?_) <;> (repeat' (first | (exact eqA) | (refine shE ?_) | (refine And.intro ?_ ?_))) <;> first | rfl | decide
 ·intro i hi
  have hlen := z3v z20 z0t (k := k) hi
  by_cases hlt : i < es.length
  ·have f1 : (i : Int) < ((rwG z20 z0t k es i).length : Int) := by omega
   have i1 : i < (rwG z20 z0t k es i).length := by omega
   have g := z5o z20 z0t (k := k) hlt
   have hcl := z23 z0t (es := es) (i := i + 1)
   obtain ⟨o0, he, w0, l0⟩ := hw _ (List.getElem_mem hlt)
   rw [he] at g
   have hnx : (rwG z20 z0t k es i).set i [.own 2 (mkG elLf szLf ((k + cnG z0t (es.take i))) o0)] = rwG z20 z0t k es (i + 1) := by
    have := z2y z20 z0t (k := k) hlt
    rw [he] at this
    exact this
   have hcn : cnG z0t (es.take (i + 1)) = cnG z0t (es.take i) + (0 + cnG szLf o0) := by
    have := z1e z0t hlt
    rw [he] at this
    exact this
   have hnp : 0 < k + cnG z0t (es.take i) := by omega
   have hnb : k + cnG z0t (es.take i) + (0 + cnG szLf o0) ≤ 1000000000000000000 := by omega
   have e11 : k + cnG z0t (es.take (i + 1)) = k + cnG z0t (es.take i) + (0 + cnG szLf o0) := by omega
   generalize rwG z20 z0t k es i = R at *
   generalize k + cnG z0t (es.take i) = n at *
   clear hb hk hcn hcl he hw
   have e10 : k + cnG z0t (es.take (i + 1)) = (n + cnG szLf o0) := by omega
   have d0 := zcd o0 w0 (n) (by omega) (by omega) l0
   have h1 : ∀ X, i < (R.set i X).length := fun X => by rw [List.length_set]; exact i1
   have gs : ∀ X, (R.set i X)[i]? = some X := fun X => by rw [List.getElem?_set_self i1]
   generalize mkG elLf szLf (n) o0 = p0 at *
   repeat ((try conv => whnf); first | (with_reducible first | refine z0c (fun Qs hN hE hR => ?_) | refine z0a ?_ | refine z04 (fun Qb kN kE kX kR => ?_) | refine z06 ?_ | refine z07 ?_ | refine z0b ?_ | refine z08 ?_ | refine z09 ?_ | (show W _ _ _ (.cond _ _ _) _ _; refine z05 rfl ?_) | (refine hN _ ?_; try clear hN hE hR Qs) | ((first | refine hE _ _ ?_ | refine hR _ ?_); try clear hN hE hR Qs) | ((first | refine kN _ ?_ | refine kE _ ?_ | refine kX _ _ rfl ?_ | refine kR _ ?_); try clear kN kE kX kR Qb)) | (refine z0o f1 ?_) | (refine And.intro i1 ?_) | (refine And.intro (h1 _) ?_) | (refine Exists.intro _ (And.intro g ?_)) | (refine Exists.intro _ (And.intro (gs _) ?_)) | (refine ccB ([_]) (d0) ?_) | (refine And.intro (by kernel_rfl) ?_) | (rw [List.set_set]) | (refine stpQ ?_))
   refine ⟨i + 1, hlt, by omega, ?_⟩
   rw [e10]
   refine z1J 1 _ i 0 rfl rfl (by first | exact gs _ | (rw [List.set_set]; exact gs _) | (rw [List.set_set, List.set_set]; exact gs _)) ?_
   refine LeP.g ?_
   (refine z02 (by rfl) ?_ ?_) <;> (repeat' (first | (exact eqA) | (refine shE ?_) | (refine And.intro ?_ ?_))) <;> first | rfl | exact hnx | (simp only [List.set_set]; exact hnx)
  ·have hie : i = es.length := by omega
   subst hie
   have f1 : ¬ (es.length : Int) < ((rwG z20 z0t k es es.length).length : Int) := by omega
   repeat ((try conv => whnf); first | (with_reducible first | refine z0c (fun Qs hN hE hR => ?_) | refine z0a ?_ | refine z04 (fun Qb kN kE kX kR => ?_) | refine z06 ?_ | refine z07 ?_ | refine z0b ?_ | refine z08 ?_ | refine z09 ?_ | (show W _ _ _ (.cond _ _ _) _ _; refine z05 rfl ?_) | (refine hN _ ?_; try clear hN hE hR Qs) | ((first | refine hE _ _ ?_ | refine hR _ ?_); try clear hN hE hR Qs) | ((first | refine kN _ ?_ | refine kE _ ?_ | refine kX _ _ rfl ?_ | refine kR _ ?_); try clear kN kE kX kR Qb)) | (refine z0j f1 ?_) | (refine stpQ ?_))
   rw [List.take_length]
   (refine z02 (by rfl) ?_ ?_) <;> (repeat' (first | (exact eqA) | (refine shE ?_) | (refine And.intro ?_ ?_))) <;> first | rfl | exact z2u _ _ _ _
 ·repeat ((try conv => whnf); first | (with_reducible first | refine z0c (fun Qs hN hE hR => ?_) | refine z0a ?_ | refine z04 (fun Qb kN kE kX kR => ?_) | refine z06 ?_ | refine z07 ?_ | refine z0b ?_ | refine z08 ?_ | refine z09 ?_ | (show W _ _ _ (.cond _ _ _) _ _; refine z05 rfl ?_) | (refine hN _ ?_; try clear hN hE hR Qs) | ((first | refine hE _ _ ?_ | refine hR _ ?_); try clear hN hE hR Qs) | ((first | refine kN _ ?_ | refine kE _ ?_ | refine kX _ _ rfl ?_ | refine kR _ ?_); try clear kN kE kX kR Qb)) | (refine stpQ ?_))
  (refine z00 (by rfl) ?_ ?_ (by rfl)) <;> (repeat' (first | (exact eqA) | (refine shE ?_) | (refine And.intro ?_ ?_)))
theorem zaU (es : List (List T)) (hw : zl8 es) (k : Nat) (hk : 0 < k) (hb : k + cnG z0t es ≤ 1000000000000000000) (hl : (es.length : Int) ≤ 1000000000) :
 CT Tryz.prog 53 [.deep 1 (mkG z20 z0t k es) []] [.ref 1, .int .i64 (k : Int)] (.int .i64 ((k + cnG z0t es : Nat) : Int)) [.deep 1 (mkG z20 z0t k es) []] := by
 have hlen := z1O z20 z0t k es
 refine z01 z03 2 rfl Tryz.func53 rfl rfl rfl ?_
 conv => arg 6; whnf
 repeat ((try conv => whnf); first | (with_reducible first | refine z0c (fun Qs hN hE hR => ?_) | refine z0a ?_ | refine z04 (fun Qb kN kE kX kR => ?_) | refine z06 ?_ | refine z07 ?_ | refine z0b ?_ | refine z08 ?_ | refine z09 ?_ | (show W _ _ _ (.cond _ _ _) _ _; refine z05 rfl ?_) | (refine hN _ ?_; try clear hN hE hR Qs) | ((first | refine hE _ _ ?_ | refine hR _ ?_); try clear hN hE hR Qs) | ((first | refine kN _ ?_ | refine kE _ ?_ | refine kX _ _ rfl ?_ | refine kR _ ?_); try clear kN kE kX kR Qb)) | (refine stpQ ?_))
 refine z37 0 ⟨[(1, .int .i64 ((k + cnG z0t es : Nat) : Int))], [(1, some (.deep 1 (mkG z20 z0t k es) []))], 2⟩ Nat (fun i => ⟨[(0, .ref 1), (1, .int .i64 ((k + cnG z0t (es.take i) : Nat) : Int)), (5, .int .i64 (i : Int))], [(1, some (.deep 1 (mkG z20 z0t k es) []))], 2⟩) (fun i => i ≤ es.length) (fun i => es.length - i) 0 (Nat.zero_le _) ?_ ?_ ?_
 ·(refine z02 (by rfl) ?_ ?_) <;> (repeat' (first | (exact eqA) | (refine shE ?_) | (refine And.intro ?_ ?_))) <;> first | rfl | decide
 ·intro i hi
  by_cases hlt : i < es.length
  ·have f1 : (i : Int) < ((mkG z20 z0t k es).length : Int) := by omega
   have i1 : i < (mkG z20 z0t k es).length := by omega
   have hcl := z23 z0t (es := es) (i := i + 1)
   obtain ⟨o0, he, w0, l0⟩ := hw _ (List.getElem_mem hlt)
   have g : (mkG z20 z0t k es)[i]? = some [.own 2 (mkG elLf szLf ((k + cnG z0t (es.take i))) o0)] := by
    have := z3u z20 z0t k hlt
    rw [he] at this
    exact this
   have hcn : cnG z0t (es.take (i + 1)) = cnG z0t (es.take i) + (0 + cnG szLf o0) := by
    have := z1e z0t hlt
    rw [he] at this
    exact this
   have hnp : 0 < k + cnG z0t (es.take i) := by omega
   have hnb : k + cnG z0t (es.take i) + (0 + cnG szLf o0) ≤ 1000000000000000000 := by omega
   have e11 : k + cnG z0t (es.take (i + 1)) = k + cnG z0t (es.take i) + (0 + cnG szLf o0) := by omega
   generalize mkG z20 z0t k es = R at *
   generalize k + cnG z0t (es.take i) = n at *
   clear hb hk hcn hcl he hw
   have e10 : k + cnG z0t (es.take (i + 1)) = (n + cnG szLf o0) := by omega
   have d0 := zce o0 (n) (by omega) (by omega) l0
   have z0 : ¬ ((n + cnG szLf o0 : Nat) : Int) < 0 := by omega
   have h1 : ∀ X, i < (R.set i X).length := fun X => by rw [List.length_set]; exact i1
   have gs : ∀ X, (R.set i X)[i]? = some X := fun X => by rw [List.getElem?_set_self i1]
   have hnx := z3h g
   generalize mkG elLf szLf (n) o0 = p0 at *
   repeat ((try conv => whnf); first | (with_reducible first | refine z0c (fun Qs hN hE hR => ?_) | refine z0a ?_ | refine z04 (fun Qb kN kE kX kR => ?_) | refine z06 ?_ | refine z07 ?_ | refine z0b ?_ | refine z08 ?_ | refine z09 ?_ | (show W _ _ _ (.cond _ _ _) _ _; refine z05 rfl ?_) | (refine hN _ ?_; try clear hN hE hR Qs) | ((first | refine hE _ _ ?_ | refine hR _ ?_); try clear hN hE hR Qs) | ((first | refine kN _ ?_ | refine kE _ ?_ | refine kX _ _ rfl ?_ | refine kR _ ?_); try clear kN kE kX kR Qb)) | (refine z0o f1 ?_) | (refine And.intro i1 ?_) | (refine And.intro (h1 _) ?_) | (refine Exists.intro _ (And.intro g ?_)) | (refine Exists.intro _ (And.intro (gs _) ?_)) | (refine z0j z0 ?_) | (refine ccB ([_]) (d0) ?_) | (refine And.intro (by kernel_rfl) ?_) | (rw [List.set_set]) | (refine stpQ ?_))
   refine ⟨i + 1, hlt, by omega, ?_⟩
   rw [e10]
   refine z1J 1 _ i 0 rfl rfl (by first | exact gs _ | (rw [List.set_set]; exact gs _) | (rw [List.set_set, List.set_set]; exact gs _)) ?_
   refine LeP.g ?_
   (refine z02 (by rfl) ?_ ?_) <;> (repeat' (first | (exact eqA) | (refine shE ?_) | (refine And.intro ?_ ?_))) <;> first | rfl | exact hnx | (simp only [List.set_set]; exact hnx)
  ·have hie : i = es.length := by omega
   subst hie
   have f1 : ¬ (es.length : Int) < ((mkG z20 z0t k es).length : Int) := by omega
   repeat ((try conv => whnf); first | (with_reducible first | refine z0c (fun Qs hN hE hR => ?_) | refine z0a ?_ | refine z04 (fun Qb kN kE kX kR => ?_) | refine z06 ?_ | refine z07 ?_ | refine z0b ?_ | refine z08 ?_ | refine z09 ?_ | (show W _ _ _ (.cond _ _ _) _ _; refine z05 rfl ?_) | (refine hN _ ?_; try clear hN hE hR Qs) | ((first | refine hE _ _ ?_ | refine hR _ ?_); try clear hN hE hR Qs) | ((first | refine kN _ ?_ | refine kE _ ?_ | refine kX _ _ rfl ?_ | refine kR _ ?_); try clear kN kE kX kR Qb)) | (refine z0j f1 ?_) | (refine stpQ ?_))
   rw [List.take_length]
   (refine z02 (by rfl) ?_ ?_) <;> (repeat' (first | (exact eqA) | (refine shE ?_) | (refine And.intro ?_ ?_))) <;> first | rfl | exact z2u _ _ _ _
 ·repeat ((try conv => whnf); first | (with_reducible first | refine z0c (fun Qs hN hE hR => ?_) | refine z0a ?_ | refine z04 (fun Qb kN kE kX kR => ?_) | refine z06 ?_ | refine z07 ?_ | refine z0b ?_ | refine z08 ?_ | refine z09 ?_ | (show W _ _ _ (.cond _ _ _) _ _; refine z05 rfl ?_) | (refine hN _ ?_; try clear hN hE hR Qs) | ((first | refine hE _ _ ?_ | refine hR _ ?_); try clear hN hE hR Qs) | ((first | refine kN _ ?_ | refine kE _ ?_ | refine kX _ _ rfl ?_ | refine kR _ ?_); try clear kN kE kX kR Qb)) | (refine stpQ ?_))
  (refine z00 (by rfl) ?_ ?_ (by rfl)) <;> (repeat' (first | (exact eqA) | (refine shE ?_) | (refine And.intro ?_ ?_)))
end
def elSl (k : Nat) : List T → List T
 | [_, _, _, _, _, .own _ o5, .own _ o6, .own _ o7] => [.int .i64 ((k : Nat) : Int), .int .i64 ((k + 1 : Nat) : Int), .str (z0p (k + 1 + 1)), .str (z0p (k + 1 + 1 + 1)), .int .i64 ((k + 1 + 1 + 1 + 1 : Nat) : Int), .own 1 (mkG elSt szSt (k + 1 + 1 + 1 + 1 + 1) o5), .own 1 (mkG elSt szSt ((k + 1 + 1 + 1 + 1 + 1 + cnG szSt o5)) o6), .own 1 (mkG elSt szSt (((k + 1 + 1 + 1 + 1 + 1 + cnG szSt o5) + cnG szSt o6)) o7)]
 | e => e
def szSl : List T → Nat
 | [_, _, _, _, _, .own _ o5, .own _ o6, .own _ o7] => 5 + cnG szSt o5 + cnG szSt o6 + cnG szSt o7
 | _ => 0
def WfSl (es : List (List T)) : Prop := ∀ e ∈ es, ∃ a0 : Int, ∃ a1 : Int, ∃ a2 : Bs, ∃ a3 : Bs, ∃ a4 : Int, ∃ o5 : List (List T), ∃ o6 : List (List T), ∃ o7 : List (List T), e = [.int .i64 a0, .int .i64 a1, .str a2, .str a3, .int .i64 a4, .own 1 o5, .own 1 o6, .own 1 o7] ∧ WfSt o5 ∧ (o5.length : Int) ≤ 1000000000 ∧ WfSt o6 ∧ (o6.length : Int) ≤ 1000000000 ∧ WfSt o7 ∧ (o7.length : Int) ≤ 1000000000
section
attribute [local irreducible] z0w z0x z0A AnsP LeP W
theorem zcf (es : List (List T)) (hw : WfSl es) (k : Nat) (hk : 0 < k) (hb : k + cnG szSl es ≤ 1000000000000000000) (hl : (es.length : Int) ≤ 1000000000) :
 CT Tryz.prog 67 [.deep 8 (es) []] [.ref 1, .int .i64 (k : Int)] (.int .i64 ((k + cnG szSl es : Nat) : Int)) [.deep 8 (mkG elSl szSl k es) []] := by
 refine z01 z03 2 rfl Tryz.func67 rfl rfl rfl ?_
 conv => arg 6; whnf
 repeat ((try conv => whnf); first | (with_reducible first | refine z0c (fun Qs hN hE hR => ?_) | refine z0a ?_ | refine z04 (fun Qb kN kE kX kR => ?_) | refine z06 ?_ | refine z07 ?_ | refine z0b ?_ | refine z08 ?_ | refine z09 ?_ | (show W _ _ _ (.cond _ _ _) _ _; refine z05 rfl ?_) | (refine hN _ ?_; try clear hN hE hR Qs) | ((first | refine hE _ _ ?_ | refine hR _ ?_); try clear hN hE hR Qs) | ((first | refine kN _ ?_ | refine kE _ ?_ | refine kX _ _ rfl ?_ | refine kR _ ?_); try clear kN kE kX kR Qb)) | (refine stpQ ?_))
 refine z37 0 ⟨[(1, .int .i64 ((k + cnG szSl es : Nat) : Int))], [(1, some (.deep 8 (mkG elSl szSl k es) []))], 2⟩ Nat (fun i => ⟨[(0, .ref 1), (1, .int .i64 ((k + cnG szSl (es.take i) : Nat) : Int)), (5, .int .i64 (i : Int))], [(1, some (.deep 8 (rwG elSl szSl k es i) []))], 2⟩) (fun i => i ≤ es.length) (fun i => es.length - i) 0 (Nat.zero_le _) ?_ ?_ ?_
 ·(refine z02 (by rfl) ?_ ?_) <;> (repeat' (first | (exact eqA) | (refine shE ?_) | (refine And.intro ?_ ?_))) <;> first | rfl | decide
 ·intro i hi
  have hlen := z3v elSl szSl (k := k) hi
  by_cases hlt : i < es.length
  ·have f1 : (i : Int) < ((rwG elSl szSl k es i).length : Int) := by omega
   have i1 : i < (rwG elSl szSl k es i).length := by omega
   have g := z5o elSl szSl (k := k) hlt
   have hcl := z23 szSl (es := es) (i := i + 1)
   obtain ⟨a0, a1, a2, a3, a4, o5, o6, o7, he, w5, l5, w6, l6, w7, l7⟩ := hw _ (List.getElem_mem hlt)
   rw [he] at g
   have hnx : (rwG elSl szSl k es i).set i [.int .i64 (((k + cnG szSl (es.take i)) : Nat) : Int), .int .i64 (((k + cnG szSl (es.take i)) + 1 : Nat) : Int), .str (z0p ((k + cnG szSl (es.take i)) + 1 + 1)), .str (z0p ((k + cnG szSl (es.take i)) + 1 + 1 + 1)), .int .i64 (((k + cnG szSl (es.take i)) + 1 + 1 + 1 + 1 : Nat) : Int), .own 1 (mkG elSt szSt ((k + cnG szSl (es.take i)) + 1 + 1 + 1 + 1 + 1) o5), .own 1 (mkG elSt szSt (((k + cnG szSl (es.take i)) + 1 + 1 + 1 + 1 + 1 + cnG szSt o5)) o6), .own 1 (mkG elSt szSt ((((k + cnG szSl (es.take i)) + 1 + 1 + 1 + 1 + 1 + cnG szSt o5) + cnG szSt o6)) o7)] = rwG elSl szSl k es (i + 1) := by
    have := z2y elSl szSl (k := k) hlt
    rw [he] at this
    exact this
   have hcn : cnG szSl (es.take (i + 1)) = cnG szSl (es.take i) + (5 + cnG szSt o5 + cnG szSt o6 + cnG szSt o7) := by
    have := z1e szSl hlt
    rw [he] at this
    exact this
   have hnp : 0 < k + cnG szSl (es.take i) := by omega
   have hnb : k + cnG szSl (es.take i) + (5 + cnG szSt o5 + cnG szSt o6 + cnG szSt o7) ≤ 1000000000000000000 := by omega
   have e11 : k + cnG szSl (es.take (i + 1)) = k + cnG szSl (es.take i) + (5 + cnG szSt o5 + cnG szSt o6 + cnG szSt o7) := by omega
   generalize rwG elSl szSl k es i = R at *
   generalize k + cnG szSl (es.take i) = n at *
   clear hb hk hcn hcl he hw
   have e10 : k + cnG szSl (es.take (i + 1)) = (((n + 1 + 1 + 1 + 1 + 1 + cnG szSt o5) + cnG szSt o6) + cnG szSt o7) := by omega
   have m2 := z0I (n + 1 + 1) (by omega) (by omega)
   generalize z0p (n + 1 + 1) = t2 at *
   have m3 := z0I (n + 1 + 1 + 1) (by omega) (by omega)
   generalize z0p (n + 1 + 1 + 1) = t3 at *
   have d5 := z1E o5 w5 (n + 1 + 1 + 1 + 1 + 1) (by omega) (by omega) l5
   have d6 := z1E o6 w6 ((n + 1 + 1 + 1 + 1 + 1 + cnG szSt o5)) (by omega) (by omega) l6
   have d7 := z1E o7 w7 (((n + 1 + 1 + 1 + 1 + 1 + cnG szSt o5) + cnG szSt o6)) (by omega) (by omega) l7
   have h1 : ∀ X, i < (R.set i X).length := fun X => by rw [List.length_set]; exact i1
   have gs : ∀ X, (R.set i X)[i]? = some X := fun X => by rw [List.getElem?_set_self i1]
   generalize mkG elSt szSt (n + 1 + 1 + 1 + 1 + 1) o5 = p5 at *
   generalize mkG elSt szSt ((n + 1 + 1 + 1 + 1 + 1 + cnG szSt o5)) o6 = p6 at *
   generalize mkG elSt szSt (((n + 1 + 1 + 1 + 1 + 1 + cnG szSt o5) + cnG szSt o6)) o7 = p7 at *
   repeat ((try conv => whnf); first | (with_reducible first | refine z0c (fun Qs hN hE hR => ?_) | refine z0a ?_ | refine z04 (fun Qb kN kE kX kR => ?_) | refine z06 ?_ | refine z07 ?_ | refine z0b ?_ | refine z08 ?_ | refine z09 ?_ | (show W _ _ _ (.cond _ _ _) _ _; refine z05 rfl ?_) | (refine hN _ ?_; try clear hN hE hR Qs) | ((first | refine hE _ _ ?_ | refine hR _ ?_); try clear hN hE hR Qs) | ((first | refine kN _ ?_ | refine kE _ ?_ | refine kX _ _ rfl ?_ | refine kR _ ?_); try clear kN kE kX kR Qb)) | (refine z0o f1 ?_) | (refine And.intro i1 ?_) | (refine And.intro (h1 _) ?_) | (refine Exists.intro _ (And.intro g ?_)) | (refine Exists.intro _ (And.intro (gs _) ?_)) | (refine ccA ([]) (m2) ?_) | (refine ccA ([]) (m3) ?_) | (refine ccB ([_]) (d5) ?_) | (refine ccB ([_]) (d6) ?_) | (refine ccB ([_]) (d7) ?_) | (refine And.intro (by kernel_rfl) ?_) | (rw [List.set_set]) | (refine stpQ ?_))
   refine ⟨i + 1, hlt, by omega, ?_⟩
   rw [e10]
   refine z1J 1 _ i 7 rfl rfl (by first | exact gs _ | (rw [List.set_set]; exact gs _) | (rw [List.set_set, List.set_set]; exact gs _)) ?_
   refine z1J 1 _ i 6 rfl rfl (by first | exact gs _ | (rw [List.set_set]; exact gs _) | (rw [List.set_set, List.set_set]; exact gs _)) ?_
   refine z1J 1 _ i 5 rfl rfl (by first | exact gs _ | (rw [List.set_set]; exact gs _) | (rw [List.set_set, List.set_set]; exact gs _)) ?_
   refine LeP.g ?_
   (refine z02 (by rfl) ?_ ?_) <;> (repeat' (first | (exact eqA) | (refine shE ?_) | (refine And.intro ?_ ?_))) <;> first | rfl | exact hnx | (simp only [List.set_set]; exact hnx)
  ·have hie : i = es.length := by omega
   subst hie
   have f1 : ¬ (es.length : Int) < ((rwG elSl szSl k es es.length).length : Int) := by omega
   repeat ((try conv => whnf); first | (with_reducible first | refine z0c (fun Qs hN hE hR => ?_) | refine z0a ?_ | refine z04 (fun Qb kN kE kX kR => ?_) | refine z06 ?_ | refine z07 ?_ | refine z0b ?_ | refine z08 ?_ | refine z09 ?_ | (show W _ _ _ (.cond _ _ _) _ _; refine z05 rfl ?_) | (refine hN _ ?_; try clear hN hE hR Qs) | ((first | refine hE _ _ ?_ | refine hR _ ?_); try clear hN hE hR Qs) | ((first | refine kN _ ?_ | refine kE _ ?_ | refine kX _ _ rfl ?_ | refine kR _ ?_); try clear kN kE kX kR Qb)) | (refine z0j f1 ?_) | (refine stpQ ?_))
   rw [List.take_length]
   (refine z02 (by rfl) ?_ ?_) <;> (repeat' (first | (exact eqA) | (refine shE ?_) | (refine And.intro ?_ ?_))) <;> first | rfl | exact z2u _ _ _ _
 ·repeat ((try conv => whnf); first | (with_reducible first | refine z0c (fun Qs hN hE hR => ?_) | refine z0a ?_ | refine z04 (fun Qb kN kE kX kR => ?_) | refine z06 ?_ | refine z07 ?_ | refine z0b ?_ | refine z08 ?_ | refine z09 ?_ | (show W _ _ _ (.cond _ _ _) _ _; refine z05 rfl ?_) | (refine hN _ ?_; try clear hN hE hR Qs) | ((first | refine hE _ _ ?_ | refine hR _ ?_); try clear hN hE hR Qs) | ((first | refine kN _ ?_ | refine kE _ ?_ | refine kX _ _ rfl ?_ | refine kR _ ?_); try clear kN kE kX kR Qb)) | (refine stpQ ?_))
  (refine z00 (by rfl) ?_ ?_ (by rfl)) <;> (repeat' (first | (exact eqA) | (refine shE ?_) | (refine And.intro ?_ ?_)))
theorem zcg (es : List (List T)) (hw : WfSl es) (k : Nat) (hk : 0 < k) (hb : k + cnG szSl es ≤ 1000000000000000000) (hl : (es.length : Int) ≤ 1000000000) :
 CT Tryz.prog 71 [.deep 8 (mkG elSl szSl k es) []] [.ref 1, .int .i64 (k : Int)] (.int .i64 ((k + cnG szSl es : Nat) : Int)) [.deep 8 (mkG elSl szSl k es) []] := by
 have hlen := z1O elSl szSl k es
 refine z01 z03 2 rfl Tryz.func71 rfl rfl rfl ?_
 conv => arg 6; whnf
 repeat ((try conv => whnf); first | (with_reducible first | refine z0c (fun Qs hN hE hR => ?_) | refine z0a ?_ | refine z04 (fun Qb kN kE kX kR => ?_) | refine z06 ?_ | refine z07 ?_ | refine z0b ?_ | refine z08 ?_ | refine z09 ?_ | (show W _ _ _ (.cond _ _ _) _ _; refine z05 rfl ?_) | (refine hN _ ?_; try clear hN hE hR Qs) | ((first | refine hE _ _ ?_ | refine hR _ ?_); try clear hN hE hR Qs) | ((first | refine kN _ ?_ | refine kE _ ?_ | refine kX _ _ rfl ?_ | refine kR _ ?_); try clear kN kE kX kR Qb)) | (refine stpQ ?_))
 refine z37 0 ⟨[(1, .int .i64 ((k + cnG szSl es : Nat) : Int))], [(1, some (.deep 8 (mkG elSl szSl k es) []))], 2⟩ Nat (fun i => ⟨[(0, .ref 1), (1, .int .i64 ((k + cnG szSl (es.take i) : Nat) : Int)), (5, .int .i64 (i : Int))], [(1, some (.deep 8 (mkG elSl szSl k es) []))], 2⟩) (fun i => i ≤ es.length) (fun i => es.length - i) 0 (Nat.zero_le _) ?_ ?_ ?_
 ·(refine z02 (by rfl) ?_ ?_) <;> (repeat' (first | (exact eqA) | (refine shE ?_) | (refine And.intro ?_ ?_))) <;> first | rfl | decide
 ·intro i hi
  by_cases hlt : i < es.length
  ·have f1 : (i : Int) < ((mkG elSl szSl k es).length : Int) := by omega
   have i1 : i < (mkG elSl szSl k es).length := by omega
   have hcl := z23 szSl (es := es) (i := i + 1)
   obtain ⟨a0, a1, a2, a3, a4, o5, o6, o7, he, w5, l5, w6, l6, w7, l7⟩ := hw _ (List.getElem_mem hlt)
   have g : (mkG elSl szSl k es)[i]? = some [.int .i64 (((k + cnG szSl (es.take i)) : Nat) : Int), .int .i64 (((k + cnG szSl (es.take i)) + 1 : Nat) : Int), .str (z0p ((k + cnG szSl (es.take i)) + 1 + 1)), .str (z0p ((k + cnG szSl (es.take i)) + 1 + 1 + 1)), .int .i64 (((k + cnG szSl (es.take i)) + 1 + 1 + 1 + 1 : Nat) : Int), .own 1 (mkG elSt szSt ((k + cnG szSl (es.take i)) + 1 + 1 + 1 + 1 + 1) o5), .own 1 (mkG elSt szSt (((k + cnG szSl (es.take i)) + 1 + 1 + 1 + 1 + 1 + cnG szSt o5)) o6), .own 1 (mkG elSt szSt ((((k + cnG szSl (es.take i)) + 1 + 1 + 1 + 1 + 1 + cnG szSt o5) + cnG szSt o6)) o7)] := by
    have := z3u elSl szSl k hlt
    rw [he] at this
    exact this
   have hcn : cnG szSl (es.take (i + 1)) = cnG szSl (es.take i) + (5 + cnG szSt o5 + cnG szSt o6 + cnG szSt o7) := by
    have := z1e szSl hlt
    rw [he] at this
    exact this
   have hnp : 0 < k + cnG szSl (es.take i) := by omega
   have hnb : k + cnG szSl (es.take i) + (5 + cnG szSt o5 + cnG szSt o6 + cnG szSt o7) ≤ 1000000000000000000 := by omega
   have e11 : k + cnG szSl (es.take (i + 1)) = k + cnG szSl (es.take i) + (5 + cnG szSt o5 + cnG szSt o6 + cnG szSt o7) := by omega
   generalize mkG elSl szSl k es = R at *
   generalize k + cnG szSl (es.take i) = n at *
   clear hb hk hcn hcl he hw
   have e10 : k + cnG szSl (es.take (i + 1)) = (((n + 1 + 1 + 1 + 1 + 1 + cnG szSt o5) + cnG szSt o6) + cnG szSt o7) := by omega
   have q0 : ((n : Nat) : Int) = ((n : Nat) : Int) := rfl
   have q1 : ((n + 1 : Nat) : Int) = ((n + 1 : Nat) : Int) := rfl
   have m2 := z0I (n + 1 + 1) (by omega) (by omega)
   generalize z0p (n + 1 + 1) = t2 at *
   have r2 : t2 = t2 := rfl
   have m3 := z0I (n + 1 + 1 + 1) (by omega) (by omega)
   generalize z0p (n + 1 + 1 + 1) = t3 at *
   have r3 : t3 = t3 := rfl
   have q4 : ((n + 1 + 1 + 1 + 1 : Nat) : Int) = ((n + 1 + 1 + 1 + 1 : Nat) : Int) := rfl
   have d5 := z1F o5 (n + 1 + 1 + 1 + 1 + 1) (by omega) (by omega) l5
   have z5 : ¬ ((n + 1 + 1 + 1 + 1 + 1 + cnG szSt o5 : Nat) : Int) < 0 := by omega
   have d6 := z1F o6 ((n + 1 + 1 + 1 + 1 + 1 + cnG szSt o5)) (by omega) (by omega) l6
   have z6 : ¬ (((n + 1 + 1 + 1 + 1 + 1 + cnG szSt o5) + cnG szSt o6 : Nat) : Int) < 0 := by omega
   have d7 := z1F o7 (((n + 1 + 1 + 1 + 1 + 1 + cnG szSt o5) + cnG szSt o6)) (by omega) (by omega) l7
   have z7 : ¬ ((((n + 1 + 1 + 1 + 1 + 1 + cnG szSt o5) + cnG szSt o6) + cnG szSt o7 : Nat) : Int) < 0 := by omega
   have h1 : ∀ X, i < (R.set i X).length := fun X => by rw [List.length_set]; exact i1
   have gs : ∀ X, (R.set i X)[i]? = some X := fun X => by rw [List.getElem?_set_self i1]
   have hnx := z3h g
   generalize mkG elSt szSt (n + 1 + 1 + 1 + 1 + 1) o5 = p5 at *
   generalize mkG elSt szSt ((n + 1 + 1 + 1 + 1 + 1 + cnG szSt o5)) o6 = p6 at *
   generalize mkG elSt szSt (((n + 1 + 1 + 1 + 1 + 1 + cnG szSt o5) + cnG szSt o6)) o7 = p7 at *
   repeat ((try conv => whnf); first | (with_reducible first | refine z0c (fun Qs hN hE hR => ?_) | refine z0a ?_ | refine z04 (fun Qb kN kE kX kR => ?_) | refine z06 ?_ | refine z07 ?_ | refine z0b ?_ | refine z08 ?_ | refine z09 ?_ | (show W _ _ _ (.cond _ _ _) _ _; refine z05 rfl ?_) | (refine hN _ ?_; try clear hN hE hR Qs) | ((first | refine hE _ _ ?_ | refine hR _ ?_); try clear hN hE hR Qs) | ((first | refine kN _ ?_ | refine kE _ ?_ | refine kX _ _ rfl ?_ | refine kR _ ?_); try clear kN kE kX kR Qb)) | (refine z0o f1 ?_) | (refine And.intro i1 ?_) | (refine And.intro (h1 _) ?_) | (refine Exists.intro _ (And.intro g ?_)) | (refine Exists.intro _ (And.intro (gs _) ?_)) | (refine z0S q0 ?_) | (refine z0S q1 ?_) | (refine ccA ([]) (m2) ?_) | (refine z0S r2 ?_) | (refine ccA ([]) (m3) ?_) | (refine z0S r3 ?_) | (refine z0S q4 ?_) | (refine z0j z5 ?_) | (refine ccB ([_]) (d5) ?_) | (refine z0j z6 ?_) | (refine ccB ([_]) (d6) ?_) | (refine z0j z7 ?_) | (refine ccB ([_]) (d7) ?_) | (refine And.intro (by kernel_rfl) ?_) | (rw [List.set_set]) | (refine stpQ ?_))
   refine ⟨i + 1, hlt, by omega, ?_⟩
   rw [e10]
   refine z1J 1 _ i 7 rfl rfl (by first | exact gs _ | (rw [List.set_set]; exact gs _) | (rw [List.set_set, List.set_set]; exact gs _)) ?_
   refine z1J 1 _ i 6 rfl rfl (by first | exact gs _ | (rw [List.set_set]; exact gs _) | (rw [List.set_set, List.set_set]; exact gs _)) ?_
   refine z1J 1 _ i 5 rfl rfl (by first | exact gs _ | (rw [List.set_set]; exact gs _) | (rw [List.set_set, List.set_set]; exact gs _)) ?_
   refine LeP.g ?_
   (refine z02 (by rfl) ?_ ?_) <;> (repeat' (first | (exact eqA) | (refine shE ?_) | (refine And.intro ?_ ?_))) <;> first | rfl | exact hnx | (simp only [List.set_set]; exact hnx)
  ·have hie : i = es.length := by omega
   subst hie
   have f1 : ¬ (es.length : Int) < ((mkG elSl szSl k es).length : Int) := by omega
   repeat ((try conv => whnf); first | (with_reducible first | refine z0c (fun Qs hN hE hR => ?_) | refine z0a ?_ | refine z04 (fun Qb kN kE kX kR => ?_) | refine z06 ?_ | refine z07 ?_ | refine z0b ?_ | refine z08 ?_ | refine z09 ?_ | (show W _ _ _ (.cond _ _ _) _ _; refine z05 rfl ?_) | (refine hN _ ?_; try clear hN hE hR Qs) | ((first | refine hE _ _ ?_ | refine hR _ ?_); try clear hN hE hR Qs) | ((first | refine kN _ ?_ | refine kE _ ?_ | refine kX _ _ rfl ?_ | refine kR _ ?_); try clear kN kE kX kR Qb)) | (refine z0j f1 ?_) | (refine stpQ ?_))
   rw [List.take_length]
   (refine z02 (by rfl) ?_ ?_) <;> (repeat' (first | (exact eqA) | (refine shE ?_) | (refine And.intro ?_ ?_))) <;> first | rfl | exact z2u _ _ _ _
 ·repeat ((try conv => whnf); first | (with_reducible first | refine z0c (fun Qs hN hE hR => ?_) | refine z0a ?_ | refine z04 (fun Qb kN kE kX kR => ?_) | refine z06 ?_ | refine z07 ?_ | refine z0b ?_ | refine z08 ?_ | refine z09 ?_ | (show W _ _ _ (.cond _ _ _) _ _; refine z05 rfl ?_) | (refine hN _ ?_; try clear hN hE hR Qs) | ((first | refine hE _ _ ?_ | refine hR _ ?_); try clear hN hE hR Qs) | ((first | refine kN _ ?_ | refine kE _ ?_ | refine kX _ _ rfl ?_ | refine kR _ ?_); try clear kN kE kX kR Qb)) | (refine stpQ ?_))
  (refine z00 (by rfl) ?_ ?_ (by rfl)) <;> (repeat' (first | (exact eqA) | (refine shE ?_) | (refine And.intro ?_ ?_)))
end
section
attribute [local irreducible] z0w z0x z0A AnsP LeP W
end
end Go.Proofs.YtnhcfmmdaihneaaGreatDoor
namespace Go.Proofs.YtnhcfmmdaihneaaGreatDoor
set_option maxRecDepth 100000
set_option maxHeartbeats 4000000
set_option linter.unusedVariables false
set_option linter.unusedSimpArgs false
set_option linter.unusedSectionVars false
open Go.RowKit Pl
section
attribute [local irreducible] z0w z0x z0A AnsP LeP W
theorem z8x  (z0 : List (List T)) (w0 : WfFl z0) (l0 : (z0.length : Int) ≤ 1000000000) (k : Nat) (hk : 0 < k) (hb : k + cnG szFl z0 ≤ 1000000000000000000) :
 CT Tryz.prog 19 [.deep 3 (z0) []] [.agg [.ref 1], .int .i64 (k : Int)] (.int .i64 ((k + cnG szFl z0 : Nat) : Int)) [.deep 3 (mkG elFl szFl (k) z0) []] := by
 have d0 := z7x z0 w0 (k) (by omega) (by omega) l0
 generalize mkG elFl szFl (k) z0 = p0 at *
 refine z01 z03 2 rfl Tryz.func19 rfl rfl rfl ?_
 conv => arg 6; whnf
 repeat ((try conv => whnf); first | (with_reducible first | refine z0c (fun Qs hN hE hR => ?_) | refine z0a ?_ | refine z04 (fun Qb kN kE kX kR => ?_) | refine z06 ?_ | refine z07 ?_ | refine z0b ?_ | refine z08 ?_ | refine z09 ?_ | (show W _ _ _ (.cond _ _ _) _ _; refine z05 rfl ?_) | (refine hN _ ?_; try clear hN hE hR Qs) | ((first | refine hE _ _ ?_ | refine hR _ ?_); try clear hN hE hR Qs) | ((first | refine kN _ ?_ | refine kE _ ?_ | refine kX _ _ rfl ?_ | refine kR _ ?_); try clear kN kE kX kR Qb)) | (refine ccB ([_]) (d0) ?_) | (refine And.intro (by kernel_rfl) ?_) | (refine stpQ ?_))
 (refine z00 (by rfl) ?_ ?_ (by rfl)) <;> (repeat' (first | (exact eqA) | (refine shE ?_) | (refine And.intro ?_ ?_)))
theorem zeW  (z0 : List (List T)) (w0 : WfFl z0) (l0 : (z0.length : Int) ≤ 1000000000) (k : Nat) (hk : 0 < k) (hb : k + cnG szFl z0 ≤ 1000000000000000000) :
 CT Tryz.prog 70 [.deep 3 (mkG elFl szFl (k) z0) []] [.agg [.ref 1], .int .i64 (k : Int)] (.int .i64 ((k + cnG szFl z0 : Nat) : Int)) [.deep 3 (mkG elFl szFl (k) z0) []] := by
 have d0 := z7y z0 (k) (by omega) (by omega) l0
 have y0 : ¬ ((k + cnG szFl z0 : Nat) : Int) < 0 := by omega
 generalize mkG elFl szFl (k) z0 = p0 at *
 refine z01 z03 2 rfl Tryz.func70 rfl rfl rfl ?_
 conv => arg 6; whnf
 repeat ((try conv => whnf); first | (with_reducible first | refine z0c (fun Qs hN hE hR => ?_) | refine z0a ?_ | refine z04 (fun Qb kN kE kX kR => ?_) | refine z06 ?_ | refine z07 ?_ | refine z0b ?_ | refine z08 ?_ | refine z09 ?_ | (show W _ _ _ (.cond _ _ _) _ _; refine z05 rfl ?_) | (refine hN _ ?_; try clear hN hE hR Qs) | ((first | refine hE _ _ ?_ | refine hR _ ?_); try clear hN hE hR Qs) | ((first | refine kN _ ?_ | refine kE _ ?_ | refine kX _ _ rfl ?_ | refine kR _ ?_); try clear kN kE kX kR Qb)) | (refine z0j y0 ?_) | (refine ccB ([_]) (d0) ?_) | (refine And.intro (by kernel_rfl) ?_) | (refine stpQ ?_))
 (refine z00 (by rfl) ?_ ?_ (by rfl)) <;> (repeat' (first | (exact eqA) | (refine shE ?_) | (refine And.intro ?_ ?_)))
theorem z3w (a0 : Int) (a1 : Int) (a2 : Bool) (a7 : Int) (a8 : Bool) (z3 : List (List T)) (w3 : WfFl z3) (l3 : (z3.length : Int) ≤ 1000000000) (z4 : List (List T)) (w4 : WfSt z4) (l4 : (z4.length : Int) ≤ 1000000000) (z5 : List (List T)) (w5 : WfSl z5) (l5 : (z5.length : Int) ≤ 1000000000) (z6 : List (List T)) (w6 : WfIt z6) (l6 : (z6.length : Int) ≤ 1000000000) (z9 : List (List T)) (w9 : WfSt z9) (l9 : (z9.length : Int) ≤ 1000000000) (z10 : List (List T)) (w10 : WfBo z10) (l10 : (z10.length : Int) ≤ 1000000000) (k : Nat) (hk : 0 < k) (hb : k + cnG szFl z3 + cnG szSt z4 + cnG szSl z5 + cnG szIt z6 + cnG szSt z9 + cnG szBo z10 ≤ 1000000000000000000) :
 CT Tryz.prog 20 [.deep 3 (z3) [], .deep 1 (z4) [], .deep 8 (z5) [], .deep 1 (z6) [], .deep 1 (z9) [], .deep 1 (z10) []] [.agg [.int .i64 a0, .int .i64 a1, .bool a2, .ref 1, .ref 2, .ref 3, .ref 4, .int .i64 a7, .bool a8, .ref 5, .ref 6], .int .i64 (k : Int)] (.int .i64 ((k + cnG szFl z3 + cnG szSt z4 + cnG szSl z5 + cnG szIt z6 + cnG szSt z9 + cnG szBo z10 : Nat) : Int)) [.deep 3 (mkG elFl szFl (k) z3) [], .deep 1 (mkG elSt szSt (k + cnG szFl z3) z4) [], .deep 8 (mkG elSl szSl (k + cnG szFl z3 + cnG szSt z4) z5) [], .deep 1 (mkG elIt szIt (k + cnG szFl z3 + cnG szSt z4 + cnG szSl z5) z6) [], .deep 1 (mkG elSt szSt (k + cnG szFl z3 + cnG szSt z4 + cnG szSl z5 + cnG szIt z6) z9) [], .deep 1 (mkG elBo szBo (k + cnG szFl z3 + cnG szSt z4 + cnG szSl z5 + cnG szIt z6 + cnG szSt z9) z10) []] := by
 have d0 := z8x  z3 w3 l3 (k) (by omega) (by omega)
 have d1 := z1E z4 w4 (k + cnG szFl z3) (by omega) (by omega) l4
 have d2 := zcf z5 w5 (k + cnG szFl z3 + cnG szSt z4) (by omega) (by omega) l5
 have d3 := z5Q z6 w6 (k + cnG szFl z3 + cnG szSt z4 + cnG szSl z5) (by omega) (by omega) l6
 have d4 := z1E z9 w9 (k + cnG szFl z3 + cnG szSt z4 + cnG szSl z5 + cnG szIt z6) (by omega) (by omega) l9
 have d5 := zcb z10 w10 (k + cnG szFl z3 + cnG szSt z4 + cnG szSl z5 + cnG szIt z6 + cnG szSt z9) (by omega) (by omega) l10
 generalize mkG elFl szFl (k) z3 = p3 at *
 generalize mkG elSt szSt (k + cnG szFl z3) z4 = p4 at *
 generalize mkG elSl szSl (k + cnG szFl z3 + cnG szSt z4) z5 = p5 at *
 generalize mkG elIt szIt (k + cnG szFl z3 + cnG szSt z4 + cnG szSl z5) z6 = p6 at *
 generalize mkG elSt szSt (k + cnG szFl z3 + cnG szSt z4 + cnG szSl z5 + cnG szIt z6) z9 = p9 at *
 generalize mkG elBo szBo (k + cnG szFl z3 + cnG szSt z4 + cnG szSl z5 + cnG szIt z6 + cnG szSt z9) z10 = p10 at *
 refine z01 z03 7 rfl Tryz.func20 rfl rfl rfl ?_
 conv => arg 6; whnf
 repeat ((try conv => whnf); first | (with_reducible first | refine z0c (fun Qs hN hE hR => ?_) | refine z0a ?_ | refine z04 (fun Qb kN kE kX kR => ?_) | refine z06 ?_ | refine z07 ?_ | refine z0b ?_ | refine z08 ?_ | refine z09 ?_ | (show W _ _ _ (.cond _ _ _) _ _; refine z05 rfl ?_) | (refine hN _ ?_; try clear hN hE hR Qs) | ((first | refine hE _ _ ?_ | refine hR _ ?_); try clear hN hE hR Qs) | ((first | refine kN _ ?_ | refine kE _ ?_ | refine kX _ _ rfl ?_ | refine kR _ ?_); try clear kN kE kX kR Qb)) | (refine ccB ([_]) (d0) ?_) | (refine ccB ([_]) (d1) ?_) | (refine ccB ([_]) (d2) ?_) | (refine ccB ([_]) (d3) ?_) | (refine ccB ([_]) (d4) ?_) | (refine ccB ([_]) (d5) ?_) | (refine And.intro (by kernel_rfl) ?_) | (refine stpQ ?_))
 (refine z00 (by rfl) ?_ ?_ (by rfl)) <;> (repeat' (first | (exact eqA) | (refine shE ?_) | (refine And.intro ?_ ?_)))
theorem z4F (a0 : Int) (a1 : Int) (a2 : Bool) (a7 : Int) (a8 : Bool) (z3 : List (List T)) (w3 : WfFl z3) (l3 : (z3.length : Int) ≤ 1000000000) (z4 : List (List T)) (w4 : WfSt z4) (l4 : (z4.length : Int) ≤ 1000000000) (z5 : List (List T)) (w5 : WfSl z5) (l5 : (z5.length : Int) ≤ 1000000000) (z6 : List (List T)) (w6 : WfIt z6) (l6 : (z6.length : Int) ≤ 1000000000) (z9 : List (List T)) (w9 : WfSt z9) (l9 : (z9.length : Int) ≤ 1000000000) (z10 : List (List T)) (w10 : WfBo z10) (l10 : (z10.length : Int) ≤ 1000000000) (k : Nat) (hk : 0 < k) (hb : k + cnG szFl z3 + cnG szSt z4 + cnG szSl z5 + cnG szIt z6 + cnG szSt z9 + cnG szBo z10 ≤ 1000000000000000000) :
 CT Tryz.prog 21 [.deep 3 (mkG elFl szFl (k) z3) [], .deep 1 (mkG elSt szSt (k + cnG szFl z3) z4) [], .deep 8 (mkG elSl szSl (k + cnG szFl z3 + cnG szSt z4) z5) [], .deep 1 (mkG elIt szIt (k + cnG szFl z3 + cnG szSt z4 + cnG szSl z5) z6) [], .deep 1 (mkG elSt szSt (k + cnG szFl z3 + cnG szSt z4 + cnG szSl z5 + cnG szIt z6) z9) [], .deep 1 (mkG elBo szBo (k + cnG szFl z3 + cnG szSt z4 + cnG szSl z5 + cnG szIt z6 + cnG szSt z9) z10) []] [.agg [.int .i64 a0, .int .i64 a1, .bool a2, .ref 1, .ref 2, .ref 3, .ref 4, .int .i64 a7, .bool a8, .ref 5, .ref 6], .int .i64 (k : Int)] (.int .i64 ((k + cnG szFl z3 + cnG szSt z4 + cnG szSl z5 + cnG szIt z6 + cnG szSt z9 + cnG szBo z10 : Nat) : Int)) [.deep 3 (mkG elFl szFl (k) z3) [], .deep 1 (mkG elSt szSt (k + cnG szFl z3) z4) [], .deep 8 (mkG elSl szSl (k + cnG szFl z3 + cnG szSt z4) z5) [], .deep 1 (mkG elIt szIt (k + cnG szFl z3 + cnG szSt z4 + cnG szSl z5) z6) [], .deep 1 (mkG elSt szSt (k + cnG szFl z3 + cnG szSt z4 + cnG szSl z5 + cnG szIt z6) z9) [], .deep 1 (mkG elBo szBo (k + cnG szFl z3 + cnG szSt z4 + cnG szSl z5 + cnG szIt z6 + cnG szSt z9) z10) []] := by
 have d0 := zeW  z3 w3 l3 (k) (by omega) (by omega)
 have y0 : ¬ ((k + cnG szFl z3 : Nat) : Int) < 0 := by omega
 have d1 := z1F z4 (k + cnG szFl z3) (by omega) (by omega) l4
 have y1 : ¬ ((k + cnG szFl z3 + cnG szSt z4 : Nat) : Int) < 0 := by omega
 have d2 := zcg z5 w5 (k + cnG szFl z3 + cnG szSt z4) (by omega) (by omega) l5
 have y2 : ¬ ((k + cnG szFl z3 + cnG szSt z4 + cnG szSl z5 : Nat) : Int) < 0 := by omega
 have d3 := z5R z6 (k + cnG szFl z3 + cnG szSt z4 + cnG szSl z5) (by omega) (by omega) l6
 have y3 : ¬ ((k + cnG szFl z3 + cnG szSt z4 + cnG szSl z5 + cnG szIt z6 : Nat) : Int) < 0 := by omega
 have d4 := z1F z9 (k + cnG szFl z3 + cnG szSt z4 + cnG szSl z5 + cnG szIt z6) (by omega) (by omega) l9
 have y4 : ¬ ((k + cnG szFl z3 + cnG szSt z4 + cnG szSl z5 + cnG szIt z6 + cnG szSt z9 : Nat) : Int) < 0 := by omega
 have d5 := zcc z10 (k + cnG szFl z3 + cnG szSt z4 + cnG szSl z5 + cnG szIt z6 + cnG szSt z9) (by omega) (by omega) l10
 have y5 : ¬ ((k + cnG szFl z3 + cnG szSt z4 + cnG szSl z5 + cnG szIt z6 + cnG szSt z9 + cnG szBo z10 : Nat) : Int) < 0 := by omega
 generalize mkG elFl szFl (k) z3 = p3 at *
 generalize mkG elSt szSt (k + cnG szFl z3) z4 = p4 at *
 generalize mkG elSl szSl (k + cnG szFl z3 + cnG szSt z4) z5 = p5 at *
 generalize mkG elIt szIt (k + cnG szFl z3 + cnG szSt z4 + cnG szSl z5) z6 = p6 at *
 generalize mkG elSt szSt (k + cnG szFl z3 + cnG szSt z4 + cnG szSl z5 + cnG szIt z6) z9 = p9 at *
 generalize mkG elBo szBo (k + cnG szFl z3 + cnG szSt z4 + cnG szSl z5 + cnG szIt z6 + cnG szSt z9) z10 = p10 at *
 refine z01 z03 7 rfl Tryz.func21 rfl rfl rfl ?_
 conv => arg 6; whnf
 repeat ((try conv => whnf); first | (with_reducible first | refine z0c (fun Qs hN hE hR => ?_) | refine z0a ?_ | refine z04 (fun Qb kN kE kX kR => ?_) | refine z06 ?_ | refine z07 ?_ | refine z0b ?_ | refine z08 ?_ | refine z09 ?_ | (show W _ _ _ (.cond _ _ _) _ _; refine z05 rfl ?_) | (refine hN _ ?_; try clear hN hE hR Qs) | ((first | refine hE _ _ ?_ | refine hR _ ?_); try clear hN hE hR Qs) | ((first | refine kN _ ?_ | refine kE _ ?_ | refine kX _ _ rfl ?_ | refine kR _ ?_); try clear kN kE kX kR Qb)) | (refine z0j y0 ?_) | (refine ccB ([_]) (d0) ?_) | (refine z0j y1 ?_) | (refine ccB ([_]) (d1) ?_) | (refine z0j y2 ?_) | (refine ccB ([_]) (d2) ?_) | (refine z0j y3 ?_) | (refine ccB ([_]) (d3) ?_) | (refine z0j y4 ?_) | (refine ccB ([_]) (d4) ?_) | (refine z0j y5 ?_) | (refine ccB ([_]) (d5) ?_) | (refine And.intro (by kernel_rfl) ?_) | (refine stpQ ?_))
 (refine z00 (by rfl) ?_ ?_ (by rfl)) <;> (repeat' (first | (exact eqA) | (refine shE ?_) | (refine And.intro ?_ ?_)))
end
end Go.Proofs.YtnhcfmmdaihneaaGreatDoor
