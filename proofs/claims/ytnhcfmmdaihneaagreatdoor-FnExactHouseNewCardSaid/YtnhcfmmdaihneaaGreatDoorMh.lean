/- Functions by content: rows of servers are marked and looked at by the exact laws. Functions by content: a house is marked and looked at by the exact laws. Functions by content: the law of HouseNew, over what both sides answer. -/
import Derived.Test.YtnhcfmmdaihneaaGreatDoorMk
import Derived.Test.YtnhcfmmdaihneaaGreatDoorXe
namespace Go.Proofs.YtnhcfmmdaihneaaGreatDoor
set_option maxRecDepth 100000
set_option maxHeartbeats 4000000
set_option linter.unusedVariables false
set_option linter.unusedSimpArgs false
set_option linter.unusedSectionVars false
open Go.RowKit Pl
def elSv (k : Nat) : List T → List T
 | [_, _, _, .own _ o3, _, .own _ o5, .own _ o6, .own _ o7, _, _, _] => [.int .i64 ((k : Nat) : Int), .int .i64 ((k + 1 : Nat) : Int), .bool (decide (((k + 1 + 1 : Nat) : Int).tmod 3 = 0)), .own 3 (mkG elFl szFl (k + 1 + 1 + 1) o3), .int .i64 (((k + 1 + 1 + 1 + cnG szFl o3) : Nat) : Int), .own 1 (mkG z20 z0t ((k + 1 + 1 + 1 + cnG szFl o3) + 1) o5), .own 1 (mkG elIt szIt (((k + 1 + 1 + 1 + cnG szFl o3) + 1 + cnG z0t o5)) o6), .own 3 (mkG elCh szCh ((((k + 1 + 1 + 1 + cnG szFl o3) + 1 + cnG z0t o5) + cnG szIt o6)) o7), .int .i64 ((((((k + 1 + 1 + 1 + cnG szFl o3) + 1 + cnG z0t o5) + cnG szIt o6) + cnG szCh o7) : Nat) : Int), .int .i64 ((((((k + 1 + 1 + 1 + cnG szFl o3) + 1 + cnG z0t o5) + cnG szIt o6) + cnG szCh o7) + 1 : Nat) : Int), .int .i64 ((((((k + 1 + 1 + 1 + cnG szFl o3) + 1 + cnG z0t o5) + cnG szIt o6) + cnG szCh o7) + 1 + 1 : Nat) : Int)]
 | e => e
def szSv : List T → Nat
 | [_, _, _, .own _ o3, _, .own _ o5, .own _ o6, .own _ o7, _, _, _] => 7 + cnG szFl o3 + cnG z0t o5 + cnG szIt o6 + cnG szCh o7
 | _ => 0
def WfSv (es : List (List T)) : Prop := ∀ e ∈ es, ∃ a0 : Int, ∃ a1 : Int, ∃ a2 : Bool, ∃ o3 : List (List T), ∃ a4 : Int, ∃ o5 : List (List T), ∃ o6 : List (List T), ∃ o7 : List (List T), ∃ a8 : Int, ∃ a9 : Int, ∃ a10 : Int, e = [.int .i64 a0, .int .i64 a1, .bool a2, .own 3 o3, .int .i64 a4, .own 1 o5, .own 1 o6, .own 3 o7, .int .i64 a8, .int .i64 a9, .int .i64 a10] ∧ WfFl o3 ∧ (o3.length : Int) ≤ 1000000000 ∧ zl8 o5 ∧ (o5.length : Int) ≤ 1000000000 ∧ WfIt o6 ∧ (o6.length : Int) ≤ 1000000000 ∧ WfCh o7 ∧ (o7.length : Int) ≤ 1000000000
section
attribute [local irreducible] z0w z0x z0A AnsP LeP W
theorem z9p (es : List (List T)) (hw : WfSv es) (k : Nat) (hk : 0 < k) (hb : k + cnG szSv es ≤ 1000000000000000000) (hl : (es.length : Int) ≤ 1000000000) :
 CT Tryz.prog 91 [.deep 11 (es) []] [.ref 1, .int .i64 (k : Int)] (.int .i64 ((k + cnG szSv es : Nat) : Int)) [.deep 11 (mkG elSv szSv k es) []] := by
 refine z01 z03 2 rfl Tryz.func91 rfl rfl rfl ?_
 conv => arg 6; whnf
 repeat ((try conv => whnf); first | (with_reducible first | refine z0c (fun Qs hN hE hR => ?_) | refine z0a ?_ | refine z04 (fun Qb kN kE kX kR => ?_) | refine z06 ?_ | refine z07 ?_ | refine z0b ?_ | refine z08 ?_ | refine z09 ?_ | (show W _ _ _ (.cond _ _ _) _ _; refine z05 rfl ?_) | (refine hN _ ?_; try clear hN hE hR Qs) | ((first | refine hE _ _ ?_ | refine hR _ ?_); try clear hN hE hR Qs) | ((first | refine kN _ ?_ | refine kE _ ?_ | refine kX _ _ rfl ?_ | refine kR _ ?_); try clear kN kE kX kR Qb)) | (refine stpQ ?_))
 refine z37 0 ⟨[(1, .int .i64 ((k + cnG szSv es : Nat) : Int))], [(1, some (.deep 11 (mkG elSv szSv k es) []))], 2⟩ Nat (fun i => ⟨[(0, .ref 1), (1, .int .i64 ((k + cnG szSv (es.take i) : Nat) : Int)), (5, .int .i64 (i : Int))], [(1, some (.deep 11 (rwG elSv szSv k es i) []))], 2⟩) (fun i => i ≤ es.length) (fun i => es.length - i) 0 (Nat.zero_le _) ?_ ?_ ?_
 ·(refine z02 (by rfl) ?_ ?_) <;> (repeat' (first | (exact eqA) | (refine shE ?_) | (refine And.intro ?_ ?_))) <;> first | rfl | decide
 ·intro i hi
  have hlen := z3v elSv szSv (k := k) hi
  by_cases hlt : i < es.length
  ·have f1 : (i : Int) < ((rwG elSv szSv k es i).length : Int) := by omega
   have i1 : i < (rwG elSv szSv k es i).length := by omega
   have g := z5o elSv szSv (k := k) hlt
   have hcl := z23 szSv (es := es) (i := i + 1)
   obtain ⟨a0, a1, a2, o3, a4, o5, o6, o7, a8, a9, a10, he, w3, l3, w5, l5, w6, l6, w7, l7⟩ := hw _ (List.getElem_mem hlt)
   rw [he] at g
   have hnx : (rwG elSv szSv k es i).set i [.int .i64 (((k + cnG szSv (es.take i)) : Nat) : Int), .int .i64 (((k + cnG szSv (es.take i)) + 1 : Nat) : Int), .bool (decide ((((k + cnG szSv (es.take i)) + 1 + 1 : Nat) : Int).tmod 3 = 0)), .own 3 (mkG elFl szFl ((k + cnG szSv (es.take i)) + 1 + 1 + 1) o3), .int .i64 ((((k + cnG szSv (es.take i)) + 1 + 1 + 1 + cnG szFl o3) : Nat) : Int), .own 1 (mkG z20 z0t (((k + cnG szSv (es.take i)) + 1 + 1 + 1 + cnG szFl o3) + 1) o5), .own 1 (mkG elIt szIt ((((k + cnG szSv (es.take i)) + 1 + 1 + 1 + cnG szFl o3) + 1 + cnG z0t o5)) o6), .own 3 (mkG elCh szCh (((((k + cnG szSv (es.take i)) + 1 + 1 + 1 + cnG szFl o3) + 1 + cnG z0t o5) + cnG szIt o6)) o7), .int .i64 (((((((k + cnG szSv (es.take i)) + 1 + 1 + 1 + cnG szFl o3) + 1 + cnG z0t o5) + cnG szIt o6) + cnG szCh o7) : Nat) : Int), .int .i64 (((((((k + cnG szSv (es.take i)) + 1 + 1 + 1 + cnG szFl o3) + 1 + cnG z0t o5) + cnG szIt o6) + cnG szCh o7) + 1 : Nat) : Int), .int .i64 (((((((k + cnG szSv (es.take i)) + 1 + 1 + 1 + cnG szFl o3) + 1 + cnG z0t o5) + cnG szIt o6) + cnG szCh o7) + 1 + 1 : Nat) : Int)] = rwG elSv szSv k es (i + 1) := by
    have := z2y elSv szSv (k := k) hlt
    rw [he] at this
    exact this
   have hcn : cnG szSv (es.take (i + 1)) = cnG szSv (es.take i) + (7 + cnG szFl o3 + cnG z0t o5 + cnG szIt o6 + cnG szCh o7) := by
    have := z1e szSv hlt
    rw [he] at this
    exact this
   have hnp : 0 < k + cnG szSv (es.take i) := by omega
   have hnb : k + cnG szSv (es.take i) + (7 + cnG szFl o3 + cnG z0t o5 + cnG szIt o6 + cnG szCh o7) ≤ 1000000000000000000 := by omega
   have e11 : k + cnG szSv (es.take (i + 1)) = k + cnG szSv (es.take i) + (7 + cnG szFl o3 + cnG z0t o5 + cnG szIt o6 + cnG szCh o7) := by omega
   generalize rwG elSv szSv k es i = R at *
   generalize k + cnG szSv (es.take i) = n at *
   clear hb hk hcn hcl he hw
   have e10 : k + cnG szSv (es.take (i + 1)) = ((((n + 1 + 1 + 1 + cnG szFl o3) + 1 + cnG z0t o5) + cnG szIt o6) + cnG szCh o7) + 1 + 1 + 1 := by omega
   have d3 := z7x o3 w3 (n + 1 + 1 + 1) (by omega) (by omega) l3
   have d5 := zaT o5 w5 ((n + 1 + 1 + 1 + cnG szFl o3) + 1) (by omega) (by omega) l5
   have d6 := z5Q o6 w6 (((n + 1 + 1 + 1 + cnG szFl o3) + 1 + cnG z0t o5)) (by omega) (by omega) l6
   have d7 := z9n o7 w7 ((((n + 1 + 1 + 1 + cnG szFl o3) + 1 + cnG z0t o5) + cnG szIt o6)) (by omega) (by omega) l7
   have h1 : ∀ X, i < (R.set i X).length := fun X => by rw [List.length_set]; exact i1
   have gs : ∀ X, (R.set i X)[i]? = some X := fun X => by rw [List.getElem?_set_self i1]
   generalize mkG elFl szFl (n + 1 + 1 + 1) o3 = p3 at *
   generalize mkG z20 z0t ((n + 1 + 1 + 1 + cnG szFl o3) + 1) o5 = p5 at *
   generalize mkG elIt szIt (((n + 1 + 1 + 1 + cnG szFl o3) + 1 + cnG z0t o5)) o6 = p6 at *
   generalize mkG elCh szCh ((((n + 1 + 1 + 1 + cnG szFl o3) + 1 + cnG z0t o5) + cnG szIt o6)) o7 = p7 at *
   repeat ((try conv => whnf); first | (with_reducible first | refine z0c (fun Qs hN hE hR => ?_) | refine z0a ?_ | refine z04 (fun Qb kN kE kX kR => ?_) | refine z06 ?_ | refine z07 ?_ | refine z0b ?_ | refine z08 ?_ | refine z09 ?_ | (show W _ _ _ (.cond _ _ _) _ _; refine z05 rfl ?_) | (refine hN _ ?_; try clear hN hE hR Qs) | ((first | refine hE _ _ ?_ | refine hR _ ?_); try clear hN hE hR Qs) | ((first | refine kN _ ?_ | refine kE _ ?_ | refine kX _ _ rfl ?_ | refine kR _ ?_); try clear kN kE kX kR Qb)) | (refine z0o f1 ?_) | (refine And.intro i1 ?_) | (refine And.intro (h1 _) ?_) | (refine Exists.intro _ (And.intro g ?_)) | (refine Exists.intro _ (And.intro (gs _) ?_)) | (refine ccB ([_]) (d3) ?_) | (refine ccB ([_]) (d5) ?_) | (refine ccB ([_]) (d6) ?_) | (refine ccB ([_]) (d7) ?_) | (refine And.intro (by kernel_rfl) ?_) | (rw [List.set_set]) | (refine stpQ ?_))
   refine ⟨i + 1, hlt, by omega, ?_⟩
   rw [e10]
   refine z1J 1 _ i 7 rfl rfl (by first | exact gs _ | (rw [List.set_set]; exact gs _) | (rw [List.set_set, List.set_set]; exact gs _) | (rw [List.set_set, List.set_set, List.set_set]; exact gs _)) ?_
   refine z1J 1 _ i 6 rfl rfl (by first | exact gs _ | (rw [List.set_set]; exact gs _) | (rw [List.set_set, List.set_set]; exact gs _) | (rw [List.set_set, List.set_set, List.set_set]; exact gs _)) ?_
   refine z1J 1 _ i 5 rfl rfl (by first | exact gs _ | (rw [List.set_set]; exact gs _) | (rw [List.set_set, List.set_set]; exact gs _) | (rw [List.set_set, List.set_set, List.set_set]; exact gs _)) ?_
   refine z1J 1 _ i 3 rfl rfl (by first | exact gs _ | (rw [List.set_set]; exact gs _) | (rw [List.set_set, List.set_set]; exact gs _) | (rw [List.set_set, List.set_set, List.set_set]; exact gs _)) ?_
   refine LeP.g ?_
   (refine z02 (by rfl) ?_ ?_) <;> (repeat' (first | (exact eqA) | (refine shE ?_) | (refine And.intro ?_ ?_))) <;> first | rfl | exact hnx | (simp only [List.set_set]; exact hnx)
  ·have hie : i = es.length := by omega
   subst hie
   have f1 : ¬ (es.length : Int) < ((rwG elSv szSv k es es.length).length : Int) := by omega
   repeat ((try conv => whnf); first | (with_reducible first | refine z0c (fun Qs hN hE hR => ?_) | refine z0a ?_ | refine z04 (fun Qb kN kE kX kR => ?_) | refine z06 ?_ | refine z07 ?_ | refine z0b ?_ | refine z08 ?_ | refine z09 ?_ | (show W _ _ _ (.cond _ _ _) _ _; refine z05 rfl ?_) | (refine hN _ ?_; try clear hN hE hR Qs) | ((first | refine hE _ _ ?_ | refine hR _ ?_); try clear hN hE hR Qs) | ((first | refine kN _ ?_ | refine kE _ ?_ | refine kX _ _ rfl ?_ | refine kR _ ?_); try clear kN kE kX kR Qb)) | (refine z0j f1 ?_) | (refine stpQ ?_))
   rw [List.take_length]
   (refine z02 (by rfl) ?_ ?_) <;> (repeat' (first | (exact eqA) | (refine shE ?_) | (refine And.intro ?_ ?_))) <;> first | rfl | exact z2u _ _ _ _
 ·repeat ((try conv => whnf); first | (with_reducible first | refine z0c (fun Qs hN hE hR => ?_) | refine z0a ?_ | refine z04 (fun Qb kN kE kX kR => ?_) | refine z06 ?_ | refine z07 ?_ | refine z0b ?_ | refine z08 ?_ | refine z09 ?_ | (show W _ _ _ (.cond _ _ _) _ _; refine z05 rfl ?_) | (refine hN _ ?_; try clear hN hE hR Qs) | ((first | refine hE _ _ ?_ | refine hR _ ?_); try clear hN hE hR Qs) | ((first | refine kN _ ?_ | refine kE _ ?_ | refine kX _ _ rfl ?_ | refine kR _ ?_); try clear kN kE kX kR Qb)) | (refine stpQ ?_))
  (refine z00 (by rfl) ?_ ?_ (by rfl)) <;> (repeat' (first | (exact eqA) | (refine shE ?_) | (refine And.intro ?_ ?_)))
theorem z9q (es : List (List T)) (hw : WfSv es) (k : Nat) (hk : 0 < k) (hb : k + cnG szSv es ≤ 1000000000000000000) (hl : (es.length : Int) ≤ 1000000000) :
 CT Tryz.prog 92 [.deep 11 (mkG elSv szSv k es) []] [.ref 1, .int .i64 (k : Int)] (.int .i64 ((k + cnG szSv es : Nat) : Int)) [.deep 11 (mkG elSv szSv k es) []] := by
 have hlen := z1O elSv szSv k es
 refine z01 z03 2 rfl Tryz.func92 rfl rfl rfl ?_
 conv => arg 6; whnf
 repeat ((try conv => whnf); first | (with_reducible first | refine z0c (fun Qs hN hE hR => ?_) | refine z0a ?_ | refine z04 (fun Qb kN kE kX kR => ?_) | refine z06 ?_ | refine z07 ?_ | refine z0b ?_ | refine z08 ?_ | refine z09 ?_ | (show W _ _ _ (.cond _ _ _) _ _; refine z05 rfl ?_) | (refine hN _ ?_; try clear hN hE hR Qs) | ((first | refine hE _ _ ?_ | refine hR _ ?_); try clear hN hE hR Qs) | ((first | refine kN _ ?_ | refine kE _ ?_ | refine kX _ _ rfl ?_ | refine kR _ ?_); try clear kN kE kX kR Qb)) | (refine stpQ ?_))
 refine z37 0 ⟨[(1, .int .i64 ((k + cnG szSv es : Nat) : Int))], [(1, some (.deep 11 (mkG elSv szSv k es) []))], 2⟩ Nat (fun i => ⟨[(0, .ref 1), (1, .int .i64 ((k + cnG szSv (es.take i) : Nat) : Int)), (5, .int .i64 (i : Int))], [(1, some (.deep 11 (mkG elSv szSv k es) []))], 2⟩) (fun i => i ≤ es.length) (fun i => es.length - i) 0 (Nat.zero_le _) ?_ ?_ ?_
 ·(refine z02 (by rfl) ?_ ?_) <;> (repeat' (first | (exact eqA) | (refine shE ?_) | (refine And.intro ?_ ?_))) <;> first | rfl | decide
 ·intro i hi
  by_cases hlt : i < es.length
  ·have f1 : (i : Int) < ((mkG elSv szSv k es).length : Int) := by omega
   have i1 : i < (mkG elSv szSv k es).length := by omega
   have hcl := z23 szSv (es := es) (i := i + 1)
   obtain ⟨a0, a1, a2, o3, a4, o5, o6, o7, a8, a9, a10, he, w3, l3, w5, l5, w6, l6, w7, l7⟩ := hw _ (List.getElem_mem hlt)
   have g : (mkG elSv szSv k es)[i]? = some [.int .i64 (((k + cnG szSv (es.take i)) : Nat) : Int), .int .i64 (((k + cnG szSv (es.take i)) + 1 : Nat) : Int), .bool (decide ((((k + cnG szSv (es.take i)) + 1 + 1 : Nat) : Int).tmod 3 = 0)), .own 3 (mkG elFl szFl ((k + cnG szSv (es.take i)) + 1 + 1 + 1) o3), .int .i64 ((((k + cnG szSv (es.take i)) + 1 + 1 + 1 + cnG szFl o3) : Nat) : Int), .own 1 (mkG z20 z0t (((k + cnG szSv (es.take i)) + 1 + 1 + 1 + cnG szFl o3) + 1) o5), .own 1 (mkG elIt szIt ((((k + cnG szSv (es.take i)) + 1 + 1 + 1 + cnG szFl o3) + 1 + cnG z0t o5)) o6), .own 3 (mkG elCh szCh (((((k + cnG szSv (es.take i)) + 1 + 1 + 1 + cnG szFl o3) + 1 + cnG z0t o5) + cnG szIt o6)) o7), .int .i64 (((((((k + cnG szSv (es.take i)) + 1 + 1 + 1 + cnG szFl o3) + 1 + cnG z0t o5) + cnG szIt o6) + cnG szCh o7) : Nat) : Int), .int .i64 (((((((k + cnG szSv (es.take i)) + 1 + 1 + 1 + cnG szFl o3) + 1 + cnG z0t o5) + cnG szIt o6) + cnG szCh o7) + 1 : Nat) : Int), .int .i64 (((((((k + cnG szSv (es.take i)) + 1 + 1 + 1 + cnG szFl o3) + 1 + cnG z0t o5) + cnG szIt o6) + cnG szCh o7) + 1 + 1 : Nat) : Int)] := by
    have := z3u elSv szSv k hlt
    rw [he] at this
    exact this
   have hcn : cnG szSv (es.take (i + 1)) = cnG szSv (es.take i) + (7 + cnG szFl o3 + cnG z0t o5 + cnG szIt o6 + cnG szCh o7) := by
    have := z1e szSv hlt
    rw [he] at this
    exact this
   have hnp : 0 < k + cnG szSv (es.take i) := by omega
   have hnb : k + cnG szSv (es.take i) + (7 + cnG szFl o3 + cnG z0t o5 + cnG szIt o6 + cnG szCh o7) ≤ 1000000000000000000 := by omega
   have e11 : k + cnG szSv (es.take (i + 1)) = k + cnG szSv (es.take i) + (7 + cnG szFl o3 + cnG z0t o5 + cnG szIt o6 + cnG szCh o7) := by omega
   generalize mkG elSv szSv k es = R at *
   generalize k + cnG szSv (es.take i) = n at *
   clear hb hk hcn hcl he hw
   have e10 : k + cnG szSv (es.take (i + 1)) = ((((n + 1 + 1 + 1 + cnG szFl o3) + 1 + cnG z0t o5) + cnG szIt o6) + cnG szCh o7) + 1 + 1 + 1 := by omega
   have q0 : ((n : Nat) : Int) = ((n : Nat) : Int) := rfl
   have q1 : ((n + 1 : Nat) : Int) = ((n + 1 : Nat) : Int) := rfl
   have q2 : decide (((n + 1 + 1 : Nat) : Int).tmod 3 = 0) = decide (((n + 1 + 1 : Nat) : Int).tmod 3 = 0) := rfl
   have q4 : (((n + 1 + 1 + 1 + cnG szFl o3) : Nat) : Int) = (((n + 1 + 1 + 1 + cnG szFl o3) : Nat) : Int) := rfl
   have q8 : ((((((n + 1 + 1 + 1 + cnG szFl o3) + 1 + cnG z0t o5) + cnG szIt o6) + cnG szCh o7) : Nat) : Int) = ((((((n + 1 + 1 + 1 + cnG szFl o3) + 1 + cnG z0t o5) + cnG szIt o6) + cnG szCh o7) : Nat) : Int) := rfl
   have q9 : ((((((n + 1 + 1 + 1 + cnG szFl o3) + 1 + cnG z0t o5) + cnG szIt o6) + cnG szCh o7) + 1 : Nat) : Int) = ((((((n + 1 + 1 + 1 + cnG szFl o3) + 1 + cnG z0t o5) + cnG szIt o6) + cnG szCh o7) + 1 : Nat) : Int) := rfl
   have q10 : ((((((n + 1 + 1 + 1 + cnG szFl o3) + 1 + cnG z0t o5) + cnG szIt o6) + cnG szCh o7) + 1 + 1 : Nat) : Int) = ((((((n + 1 + 1 + 1 + cnG szFl o3) + 1 + cnG z0t o5) + cnG szIt o6) + cnG szCh o7) + 1 + 1 : Nat) : Int) := rfl
   have d3 := z7y o3 (n + 1 + 1 + 1) (by omega) (by omega) l3
   have z3 : ¬ ((n + 1 + 1 + 1 + cnG szFl o3 : Nat) : Int) < 0 := by omega
   have d5 := zaU o5 w5 ((n + 1 + 1 + 1 + cnG szFl o3) + 1) (by omega) (by omega) l5
   have z5 : ¬ (((n + 1 + 1 + 1 + cnG szFl o3) + 1 + cnG z0t o5 : Nat) : Int) < 0 := by omega
   have d6 := z5R o6 (((n + 1 + 1 + 1 + cnG szFl o3) + 1 + cnG z0t o5)) (by omega) (by omega) l6
   have z6 : ¬ ((((n + 1 + 1 + 1 + cnG szFl o3) + 1 + cnG z0t o5) + cnG szIt o6 : Nat) : Int) < 0 := by omega
   have d7 := z9o o7 ((((n + 1 + 1 + 1 + cnG szFl o3) + 1 + cnG z0t o5) + cnG szIt o6)) (by omega) (by omega) l7
   have z7 : ¬ (((((n + 1 + 1 + 1 + cnG szFl o3) + 1 + cnG z0t o5) + cnG szIt o6) + cnG szCh o7 : Nat) : Int) < 0 := by omega
   have h1 : ∀ X, i < (R.set i X).length := fun X => by rw [List.length_set]; exact i1
   have gs : ∀ X, (R.set i X)[i]? = some X := fun X => by rw [List.getElem?_set_self i1]
   have hnx := z3h g
   generalize mkG elFl szFl (n + 1 + 1 + 1) o3 = p3 at *
   generalize mkG z20 z0t ((n + 1 + 1 + 1 + cnG szFl o3) + 1) o5 = p5 at *
   generalize mkG elIt szIt (((n + 1 + 1 + 1 + cnG szFl o3) + 1 + cnG z0t o5)) o6 = p6 at *
   generalize mkG elCh szCh ((((n + 1 + 1 + 1 + cnG szFl o3) + 1 + cnG z0t o5) + cnG szIt o6)) o7 = p7 at *
   repeat ((try conv => whnf); first | (with_reducible first | refine z0c (fun Qs hN hE hR => ?_) | refine z0a ?_ | refine z04 (fun Qb kN kE kX kR => ?_) | refine z06 ?_ | refine z07 ?_ | refine z0b ?_ | refine z08 ?_ | refine z09 ?_ | (show W _ _ _ (.cond _ _ _) _ _; refine z05 rfl ?_) | (refine hN _ ?_; try clear hN hE hR Qs) | ((first | refine hE _ _ ?_ | refine hR _ ?_); try clear hN hE hR Qs) | ((first | refine kN _ ?_ | refine kE _ ?_ | refine kX _ _ rfl ?_ | refine kR _ ?_); try clear kN kE kX kR Qb)) | (refine z0o f1 ?_) | (refine And.intro i1 ?_) | (refine And.intro (h1 _) ?_) | (refine Exists.intro _ (And.intro g ?_)) | (refine Exists.intro _ (And.intro (gs _) ?_)) | (refine z0S q0 ?_) | (refine z0S q1 ?_) | (refine z0S q2 ?_) | (refine z0S q4 ?_) | (refine z0S q8 ?_) | (refine z0S q9 ?_) | (refine z0S q10 ?_) | (refine z0j z3 ?_) | (refine ccB ([_]) (d3) ?_) | (refine z0j z5 ?_) | (refine ccB ([_]) (d5) ?_) | (refine z0j z6 ?_) | (refine ccB ([_]) (d6) ?_) | (refine z0j z7 ?_) | (refine ccB ([_]) (d7) ?_) | (refine And.intro (by kernel_rfl) ?_) | (rw [List.set_set]) | (refine stpQ ?_))
   refine ⟨i + 1, hlt, by omega, ?_⟩
   rw [e10]
   refine z1J 1 _ i 7 rfl rfl (by first | exact gs _ | (rw [List.set_set]; exact gs _) | (rw [List.set_set, List.set_set]; exact gs _) | (rw [List.set_set, List.set_set, List.set_set]; exact gs _)) ?_
   refine z1J 1 _ i 6 rfl rfl (by first | exact gs _ | (rw [List.set_set]; exact gs _) | (rw [List.set_set, List.set_set]; exact gs _) | (rw [List.set_set, List.set_set, List.set_set]; exact gs _)) ?_
   refine z1J 1 _ i 5 rfl rfl (by first | exact gs _ | (rw [List.set_set]; exact gs _) | (rw [List.set_set, List.set_set]; exact gs _) | (rw [List.set_set, List.set_set, List.set_set]; exact gs _)) ?_
   refine z1J 1 _ i 3 rfl rfl (by first | exact gs _ | (rw [List.set_set]; exact gs _) | (rw [List.set_set, List.set_set]; exact gs _) | (rw [List.set_set, List.set_set, List.set_set]; exact gs _)) ?_
   refine LeP.g ?_
   (refine z02 (by rfl) ?_ ?_) <;> (repeat' (first | (exact eqA) | (refine shE ?_) | (refine And.intro ?_ ?_))) <;> first | rfl | exact hnx | (simp only [List.set_set]; exact hnx)
  ·have hie : i = es.length := by omega
   subst hie
   have f1 : ¬ (es.length : Int) < ((mkG elSv szSv k es).length : Int) := by omega
   repeat ((try conv => whnf); first | (with_reducible first | refine z0c (fun Qs hN hE hR => ?_) | refine z0a ?_ | refine z04 (fun Qb kN kE kX kR => ?_) | refine z06 ?_ | refine z07 ?_ | refine z0b ?_ | refine z08 ?_ | refine z09 ?_ | (show W _ _ _ (.cond _ _ _) _ _; refine z05 rfl ?_) | (refine hN _ ?_; try clear hN hE hR Qs) | ((first | refine hE _ _ ?_ | refine hR _ ?_); try clear hN hE hR Qs) | ((first | refine kN _ ?_ | refine kE _ ?_ | refine kX _ _ rfl ?_ | refine kR _ ?_); try clear kN kE kX kR Qb)) | (refine z0j f1 ?_) | (refine stpQ ?_))
   rw [List.take_length]
   (refine z02 (by rfl) ?_ ?_) <;> (repeat' (first | (exact eqA) | (refine shE ?_) | (refine And.intro ?_ ?_))) <;> first | rfl | exact z2u _ _ _ _
 ·repeat ((try conv => whnf); first | (with_reducible first | refine z0c (fun Qs hN hE hR => ?_) | refine z0a ?_ | refine z04 (fun Qb kN kE kX kR => ?_) | refine z06 ?_ | refine z07 ?_ | refine z0b ?_ | refine z08 ?_ | refine z09 ?_ | (show W _ _ _ (.cond _ _ _) _ _; refine z05 rfl ?_) | (refine hN _ ?_; try clear hN hE hR Qs) | ((first | refine hE _ _ ?_ | refine hR _ ?_); try clear hN hE hR Qs) | ((first | refine kN _ ?_ | refine kE _ ?_ | refine kX _ _ rfl ?_ | refine kR _ ?_); try clear kN kE kX kR Qb)) | (refine stpQ ?_))
  (refine z00 (by rfl) ?_ ?_ (by rfl)) <;> (repeat' (first | (exact eqA) | (refine shE ?_) | (refine And.intro ?_ ?_)))
end
end Go.Proofs.YtnhcfmmdaihneaaGreatDoor
namespace Go.Proofs.YtnhcfmmdaihneaaGreatDoor
set_option maxRecDepth 100000
set_option maxHeartbeats 4000000
set_option linter.unusedVariables false
set_option linter.unusedSimpArgs false
set_option linter.unusedSectionVars false
open Go.RowKit Pl
section
attribute [local irreducible] z0w z0x z0A AnsP LeP W
theorem zci (a0 : Int) (a1 : Int) (a2 : Bool) (a7 : Int) (a8 : Bool) (z3 : List (List T)) (w3 : WfFl z3) (l3 : (z3.length : Int) ≤ 1000000000) (z4 : List (List T)) (w4 : WfSt z4) (l4 : (z4.length : Int) ≤ 1000000000) (z5 : List (List T)) (w5 : WfSl z5) (l5 : (z5.length : Int) ≤ 1000000000) (z6 : List (List T)) (w6 : WfIt z6) (l6 : (z6.length : Int) ≤ 1000000000) (z9 : List (List T)) (w9 : WfSt z9) (l9 : (z9.length : Int) ≤ 1000000000) (z10 : List (List T)) (w10 : WfBo z10) (l10 : (z10.length : Int) ≤ 1000000000) (z11 : List (List T)) (w11 : WfSv z11) (l11 : (z11.length : Int) ≤ 1000000000) (z12 : List (List T)) (w12 : WfSt z12) (l12 : (z12.length : Int) ≤ 1000000000) (z13 : List (List T)) (w13 : WfIt z13) (l13 : (z13.length : Int) ≤ 1000000000) (k : Nat) (hk : 0 < k) (hb : k + cnG szFl z3 + cnG szSt z4 + cnG szSl z5 + cnG szIt z6 + cnG szSt z9 + cnG szBo z10 + cnG szSv z11 + cnG szSt z12 + cnG szIt z13 ≤ 1000000000000000000) :
 CT Tryz.prog 29 [.deep 3 (z3) [], .deep 1 (z4) [], .deep 8 (z5) [], .deep 1 (z6) [], .deep 1 (z9) [], .deep 1 (z10) [], .deep 11 (z11) [], .deep 1 (z12) [], .deep 1 (z13) []] [.agg [.int .i64 a0, .int .i64 a1, .bool a2, .ref 1, .ref 2, .ref 3, .ref 4, .int .i64 a7, .bool a8, .ref 5, .ref 6, .ref 7, .ref 8, .ref 9], .int .i64 (k : Int)] (.int .i64 ((k + cnG szFl z3 + cnG szSt z4 + cnG szSl z5 + cnG szIt z6 + cnG szSt z9 + cnG szBo z10 + cnG szSv z11 + cnG szSt z12 + cnG szIt z13 : Nat) : Int)) [.deep 3 (mkG elFl szFl (k) z3) [], .deep 1 (mkG elSt szSt (k + cnG szFl z3) z4) [], .deep 8 (mkG elSl szSl (k + cnG szFl z3 + cnG szSt z4) z5) [], .deep 1 (mkG elIt szIt (k + cnG szFl z3 + cnG szSt z4 + cnG szSl z5) z6) [], .deep 1 (mkG elSt szSt (k + cnG szFl z3 + cnG szSt z4 + cnG szSl z5 + cnG szIt z6) z9) [], .deep 1 (mkG elBo szBo (k + cnG szFl z3 + cnG szSt z4 + cnG szSl z5 + cnG szIt z6 + cnG szSt z9) z10) [], .deep 11 (mkG elSv szSv (k + cnG szFl z3 + cnG szSt z4 + cnG szSl z5 + cnG szIt z6 + cnG szSt z9 + cnG szBo z10) z11) [], .deep 1 (mkG elSt szSt (k + cnG szFl z3 + cnG szSt z4 + cnG szSl z5 + cnG szIt z6 + cnG szSt z9 + cnG szBo z10 + cnG szSv z11) z12) [], .deep 1 (mkG elIt szIt (k + cnG szFl z3 + cnG szSt z4 + cnG szSl z5 + cnG szIt z6 + cnG szSt z9 + cnG szBo z10 + cnG szSv z11 + cnG szSt z12) z13) []] := by
 have d0 := z3w a0 a1 a2 a7 a8 z3 w3 l3 z4 w4 l4 z5 w5 l5 z6 w6 l6 z9 w9 l9 z10 w10 l10 (k) (by omega) (by omega)
 have d1 := z9p z11 w11 (k + cnG szFl z3 + cnG szSt z4 + cnG szSl z5 + cnG szIt z6 + cnG szSt z9 + cnG szBo z10) (by omega) (by omega) l11
 have d2 := z1E z12 w12 (k + cnG szFl z3 + cnG szSt z4 + cnG szSl z5 + cnG szIt z6 + cnG szSt z9 + cnG szBo z10 + cnG szSv z11) (by omega) (by omega) l12
 have d3 := z5Q z13 w13 (k + cnG szFl z3 + cnG szSt z4 + cnG szSl z5 + cnG szIt z6 + cnG szSt z9 + cnG szBo z10 + cnG szSv z11 + cnG szSt z12) (by omega) (by omega) l13
 generalize mkG elFl szFl (k) z3 = p3 at *
 generalize mkG elSt szSt (k + cnG szFl z3) z4 = p4 at *
 generalize mkG elSl szSl (k + cnG szFl z3 + cnG szSt z4) z5 = p5 at *
 generalize mkG elIt szIt (k + cnG szFl z3 + cnG szSt z4 + cnG szSl z5) z6 = p6 at *
 generalize mkG elSt szSt (k + cnG szFl z3 + cnG szSt z4 + cnG szSl z5 + cnG szIt z6) z9 = p9 at *
 generalize mkG elBo szBo (k + cnG szFl z3 + cnG szSt z4 + cnG szSl z5 + cnG szIt z6 + cnG szSt z9) z10 = p10 at *
 generalize mkG elSv szSv (k + cnG szFl z3 + cnG szSt z4 + cnG szSl z5 + cnG szIt z6 + cnG szSt z9 + cnG szBo z10) z11 = p11 at *
 generalize mkG elSt szSt (k + cnG szFl z3 + cnG szSt z4 + cnG szSl z5 + cnG szIt z6 + cnG szSt z9 + cnG szBo z10 + cnG szSv z11) z12 = p12 at *
 generalize mkG elIt szIt (k + cnG szFl z3 + cnG szSt z4 + cnG szSl z5 + cnG szIt z6 + cnG szSt z9 + cnG szBo z10 + cnG szSv z11 + cnG szSt z12) z13 = p13 at *
 refine z01 z03 10 rfl Tryz.func29 rfl rfl rfl ?_
 conv => arg 6; whnf
 repeat ((try conv => whnf); first | (with_reducible first | refine z0c (fun Qs hN hE hR => ?_) | refine z0a ?_ | refine z04 (fun Qb kN kE kX kR => ?_) | refine z06 ?_ | refine z07 ?_ | refine z0b ?_ | refine z08 ?_ | refine z09 ?_ | (show W _ _ _ (.cond _ _ _) _ _; refine z05 rfl ?_) | (refine hN _ ?_; try clear hN hE hR Qs) | ((first | refine hE _ _ ?_ | refine hR _ ?_); try clear hN hE hR Qs) | ((first | refine kN _ ?_ | refine kE _ ?_ | refine kX _ _ rfl ?_ | refine kR _ ?_); try clear kN kE kX kR Qb)) | (refine ccB ([_, _, _, _, _, _]) (d0) ?_) | (refine ccB ([_]) (d1) ?_) | (refine ccB ([_]) (d2) ?_) | (refine ccB ([_]) (d3) ?_) | (refine And.intro (by kernel_rfl) ?_) | (refine stpQ ?_))
 (refine z00 (by rfl) ?_ ?_ (by rfl)) <;> (repeat' (first | (exact eqA) | (refine shE ?_) | (refine And.intro ?_ ?_)))
theorem zcj (a0 : Int) (a1 : Int) (a2 : Bool) (a7 : Int) (a8 : Bool) (z3 : List (List T)) (w3 : WfFl z3) (l3 : (z3.length : Int) ≤ 1000000000) (z4 : List (List T)) (w4 : WfSt z4) (l4 : (z4.length : Int) ≤ 1000000000) (z5 : List (List T)) (w5 : WfSl z5) (l5 : (z5.length : Int) ≤ 1000000000) (z6 : List (List T)) (w6 : WfIt z6) (l6 : (z6.length : Int) ≤ 1000000000) (z9 : List (List T)) (w9 : WfSt z9) (l9 : (z9.length : Int) ≤ 1000000000) (z10 : List (List T)) (w10 : WfBo z10) (l10 : (z10.length : Int) ≤ 1000000000) (z11 : List (List T)) (w11 : WfSv z11) (l11 : (z11.length : Int) ≤ 1000000000) (z12 : List (List T)) (w12 : WfSt z12) (l12 : (z12.length : Int) ≤ 1000000000) (z13 : List (List T)) (w13 : WfIt z13) (l13 : (z13.length : Int) ≤ 1000000000) (k : Nat) (hk : 0 < k) (hb : k + cnG szFl z3 + cnG szSt z4 + cnG szSl z5 + cnG szIt z6 + cnG szSt z9 + cnG szBo z10 + cnG szSv z11 + cnG szSt z12 + cnG szIt z13 ≤ 1000000000000000000) :
 CT Tryz.prog 30 [.deep 3 (mkG elFl szFl (k) z3) [], .deep 1 (mkG elSt szSt (k + cnG szFl z3) z4) [], .deep 8 (mkG elSl szSl (k + cnG szFl z3 + cnG szSt z4) z5) [], .deep 1 (mkG elIt szIt (k + cnG szFl z3 + cnG szSt z4 + cnG szSl z5) z6) [], .deep 1 (mkG elSt szSt (k + cnG szFl z3 + cnG szSt z4 + cnG szSl z5 + cnG szIt z6) z9) [], .deep 1 (mkG elBo szBo (k + cnG szFl z3 + cnG szSt z4 + cnG szSl z5 + cnG szIt z6 + cnG szSt z9) z10) [], .deep 11 (mkG elSv szSv (k + cnG szFl z3 + cnG szSt z4 + cnG szSl z5 + cnG szIt z6 + cnG szSt z9 + cnG szBo z10) z11) [], .deep 1 (mkG elSt szSt (k + cnG szFl z3 + cnG szSt z4 + cnG szSl z5 + cnG szIt z6 + cnG szSt z9 + cnG szBo z10 + cnG szSv z11) z12) [], .deep 1 (mkG elIt szIt (k + cnG szFl z3 + cnG szSt z4 + cnG szSl z5 + cnG szIt z6 + cnG szSt z9 + cnG szBo z10 + cnG szSv z11 + cnG szSt z12) z13) []] [.agg [.int .i64 a0, .int .i64 a1, .bool a2, .ref 1, .ref 2, .ref 3, .ref 4, .int .i64 a7, .bool a8, .ref 5, .ref 6, .ref 7, .ref 8, .ref 9], .int .i64 (k : Int)] (.int .i64 ((k + cnG szFl z3 + cnG szSt z4 + cnG szSl z5 + cnG szIt z6 + cnG szSt z9 + cnG szBo z10 + cnG szSv z11 + cnG szSt z12 + cnG szIt z13 : Nat) : Int)) [.deep 3 (mkG elFl szFl (k) z3) [], .deep 1 (mkG elSt szSt (k + cnG szFl z3) z4) [], .deep 8 (mkG elSl szSl (k + cnG szFl z3 + cnG szSt z4) z5) [], .deep 1 (mkG elIt szIt (k + cnG szFl z3 + cnG szSt z4 + cnG szSl z5) z6) [], .deep 1 (mkG elSt szSt (k + cnG szFl z3 + cnG szSt z4 + cnG szSl z5 + cnG szIt z6) z9) [], .deep 1 (mkG elBo szBo (k + cnG szFl z3 + cnG szSt z4 + cnG szSl z5 + cnG szIt z6 + cnG szSt z9) z10) [], .deep 11 (mkG elSv szSv (k + cnG szFl z3 + cnG szSt z4 + cnG szSl z5 + cnG szIt z6 + cnG szSt z9 + cnG szBo z10) z11) [], .deep 1 (mkG elSt szSt (k + cnG szFl z3 + cnG szSt z4 + cnG szSl z5 + cnG szIt z6 + cnG szSt z9 + cnG szBo z10 + cnG szSv z11) z12) [], .deep 1 (mkG elIt szIt (k + cnG szFl z3 + cnG szSt z4 + cnG szSl z5 + cnG szIt z6 + cnG szSt z9 + cnG szBo z10 + cnG szSv z11 + cnG szSt z12) z13) []] := by
 have d0 := z4F a0 a1 a2 a7 a8 z3 w3 l3 z4 w4 l4 z5 w5 l5 z6 w6 l6 z9 w9 l9 z10 w10 l10 (k) (by omega) (by omega)
 have y0 : ¬ ((k + cnG szFl z3 + cnG szSt z4 + cnG szSl z5 + cnG szIt z6 + cnG szSt z9 + cnG szBo z10 : Nat) : Int) < 0 := by omega
 have d1 := z9q z11 w11 (k + cnG szFl z3 + cnG szSt z4 + cnG szSl z5 + cnG szIt z6 + cnG szSt z9 + cnG szBo z10) (by omega) (by omega) l11
 have y1 : ¬ ((k + cnG szFl z3 + cnG szSt z4 + cnG szSl z5 + cnG szIt z6 + cnG szSt z9 + cnG szBo z10 + cnG szSv z11 : Nat) : Int) < 0 := by omega
 have d2 := z1F z12 (k + cnG szFl z3 + cnG szSt z4 + cnG szSl z5 + cnG szIt z6 + cnG szSt z9 + cnG szBo z10 + cnG szSv z11) (by omega) (by omega) l12
 have y2 : ¬ ((k + cnG szFl z3 + cnG szSt z4 + cnG szSl z5 + cnG szIt z6 + cnG szSt z9 + cnG szBo z10 + cnG szSv z11 + cnG szSt z12 : Nat) : Int) < 0 := by omega
 have d3 := z5R z13 (k + cnG szFl z3 + cnG szSt z4 + cnG szSl z5 + cnG szIt z6 + cnG szSt z9 + cnG szBo z10 + cnG szSv z11 + cnG szSt z12) (by omega) (by omega) l13
 have y3 : ¬ ((k + cnG szFl z3 + cnG szSt z4 + cnG szSl z5 + cnG szIt z6 + cnG szSt z9 + cnG szBo z10 + cnG szSv z11 + cnG szSt z12 + cnG szIt z13 : Nat) : Int) < 0 := by omega
 generalize mkG elFl szFl (k) z3 = p3 at *
 generalize mkG elSt szSt (k + cnG szFl z3) z4 = p4 at *
 generalize mkG elSl szSl (k + cnG szFl z3 + cnG szSt z4) z5 = p5 at *
 generalize mkG elIt szIt (k + cnG szFl z3 + cnG szSt z4 + cnG szSl z5) z6 = p6 at *
 generalize mkG elSt szSt (k + cnG szFl z3 + cnG szSt z4 + cnG szSl z5 + cnG szIt z6) z9 = p9 at *
 generalize mkG elBo szBo (k + cnG szFl z3 + cnG szSt z4 + cnG szSl z5 + cnG szIt z6 + cnG szSt z9) z10 = p10 at *
 generalize mkG elSv szSv (k + cnG szFl z3 + cnG szSt z4 + cnG szSl z5 + cnG szIt z6 + cnG szSt z9 + cnG szBo z10) z11 = p11 at *
 generalize mkG elSt szSt (k + cnG szFl z3 + cnG szSt z4 + cnG szSl z5 + cnG szIt z6 + cnG szSt z9 + cnG szBo z10 + cnG szSv z11) z12 = p12 at *
 generalize mkG elIt szIt (k + cnG szFl z3 + cnG szSt z4 + cnG szSl z5 + cnG szIt z6 + cnG szSt z9 + cnG szBo z10 + cnG szSv z11 + cnG szSt z12) z13 = p13 at *
 refine z01 z03 10 rfl Tryz.func30 rfl rfl rfl ?_
 conv => arg 6; whnf
 repeat ((try conv => whnf); first | (with_reducible first | refine z0c (fun Qs hN hE hR => ?_) | refine z0a ?_ | refine z04 (fun Qb kN kE kX kR => ?_) | refine z06 ?_ | refine z07 ?_ | refine z0b ?_ | refine z08 ?_ | refine z09 ?_ | (show W _ _ _ (.cond _ _ _) _ _; refine z05 rfl ?_) | (refine hN _ ?_; try clear hN hE hR Qs) | ((first | refine hE _ _ ?_ | refine hR _ ?_); try clear hN hE hR Qs) | ((first | refine kN _ ?_ | refine kE _ ?_ | refine kX _ _ rfl ?_ | refine kR _ ?_); try clear kN kE kX kR Qb)) | (refine z0j y0 ?_) | (refine ccB ([_, _, _, _, _, _]) (d0) ?_) | (refine z0j y1 ?_) | (refine ccB ([_]) (d1) ?_) | (refine z0j y2 ?_) | (refine ccB ([_]) (d2) ?_) | (refine z0j y3 ?_) | (refine ccB ([_]) (d3) ?_) | (refine And.intro (by kernel_rfl) ?_) | (refine stpQ ?_))
 (refine z00 (by rfl) ?_ ?_ (by rfl)) <;> (repeat' (first | (exact eqA) | (refine shE ?_) | (refine And.intro ?_ ?_)))
end
end Go.Proofs.YtnhcfmmdaihneaaGreatDoor
namespace Go.Proofs.YtnhcfmmdaihneaaGreatDoor
set_option linter.unusedVariables false
set_option linter.unusedSimpArgs false
set_option linter.unusedSectionVars false
open Go.RowKit Pl
theorem z5q : ∀ (es : List (List T)), cnG (fun _ => 1) es = es.length
 | [] => rfl
 | e :: es => by rw [cnG, z5q es, List.length_cons]; omega
theorem zf0 (a K : Int) (up : Bool) (ty : Int) (ak : Bool) (f p s t v d r n c : List (List T)) (h : Fits 1048576 z57 [.int .i64 a, .int .i64 K, .bool up, .sl 3 f, .sl 1 p, .sl 8 s, .sl 1 t, .int .i64 ty, .bool ak, .sl 1 v, .sl 1 d, .sl 11 r, .sl 1 n, .sl 1 c]) (F P S U V D R N C : List (List T)) (hF : F = f) (hP : P = p) (hS : S = s) (hU : U = t) (hV : V = v) (hD : D = d) (hR : R = r) (hN' : N = n) (hC : C = c) : CT Tryz.prog 28 [] [.agg [.int .i64 a, .int .i64 K, .bool up, .sl 3 F, .sl 1 P, .sl 8 S, .sl 1 U, .int .i64 ty, .bool ak, .sl 1 V, .sl 1 D, .sl 11 R, .sl 1 N, .sl 1 C], .agg [.int .i64 a, .int .i64 K, .bool up, .sl 3 f, .sl 1 p, .sl 8 s, .sl 1 t, .int .i64 ty, .bool ak, .sl 1 v, .sl 1 d, .sl 11 r, .sl 1 n, .sl 1 c]] (.bool true) [] := by
 subst hF hP hS hU hV hD hR hN' hC
 exact zhs _ h
section
attribute [local irreducible] z0w z0x z0A AnsP LeP W CvE
set_option maxRecDepth 100000 in
set_option maxHeartbeats 8000000 in
theorem z7z (a K : Int) (A' K' : Int) (up : Bool) (ok : Bool) (P V D : List (List T)) (S S' : List (List T))
 (wP : WfSt P) (wV : WfSt V) (wD : WfBo D) (wS : WfSv S) (lP : P.length ≤ 1000) (lV : V.length ≤ 1000) (lD : D.length ≤ 1000) (lS : S.length ≤ 1000) (bS : cnG szSv S ≤ 1000000)
 (uP : ucE P = P) (uV : ucE V = V) (uD : ucE D = D) (uS : ucE S = S')
 (ho : Fits 1048576 z57 [.int .i64 A', .int .i64 K', .bool up, .sl 3 [], .sl 1 P, .sl 8 [], .sl 1 [], .int .i64 0, .bool false, .sl 1 V, .sl 1 D, .sl 11 S', .sl 1 [], .sl 1 []])
 (s1 : CT Tryz.prog 26 [] [.int .i64 a, .int .i64 K] (.tup [.agg [.int .i64 A', .int .i64 K', .bool up, .sl 3 [], .sl 1 P, .sl 8 [], .sl 1 [], .int .i64 0, .bool false, .sl 1 V, .sl 1 D, .sl 11 S', .sl 1 [], .sl 1 []], .bool ok]) [])
 (s2 : CT Tryz.prog 27 [] [.int .i64 a, .int .i64 K] (.tup [.agg [.int .i64 A', .int .i64 K', .bool up, .ref 1, .ref 2, .ref 3, .ref 4, .int .i64 0, .bool false, .ref 5, .ref 6, .ref 7, .ref 8, .ref 9], .bool ok]) [.deep 3 [] [], .deep 1 P [], .deep 8 [] [], .deep 1 [] [], .deep 1 V [], .deep 1 D [], .deep 11 S [], .deep 1 [] [], .deep 1 [] []]) :
 CT Tryz.prog 6 [] [.int .i64 a, .int .i64 K] (.bool true) [] := by
 have u1 := zf0 A' K' up 0 false _ _ _ _ _ _ _ _ _ ho (ucE []) (ucE P) (ucE []) (ucE []) (ucE V) (ucE D) (ucE S) (ucE []) (ucE []) (by simp [ucE]) uP (by simp [ucE]) (by simp [ucE]) uV uD uS (by simp [ucE]) (by simp [ucE])
 have e1 : cnG szSt P = P.length := by exact z5q P
 have e2 : cnG szSt V = V.length := by exact z5q V
 have e3 : cnG szBo D = D.length := by exact z5q D
 have z1 : cnG szFl [] = 0 := rfl
 have z2 : cnG szSl [] = 0 := rfl
 have z3 : cnG szIt [] = 0 := rfl
 have z4 : cnG szSt [] = 0 := rfl
 have n0 : ∀ e ∈ ([] : List (List T)), False := fun e h => by cases h
 have l0 : ((([] : List (List T)).length : Nat) : Int) ≤ 1000000000 := by decide
 have d2 := zci A' K' up 0 false [] (fun e h => (n0 e h).elim) l0 P wP (by omega) [] (fun e h => (n0 e h).elim) l0 [] (fun e h => (n0 e h).elim) l0 V wV (by omega) D wD (by omega) S wS (by omega) [] (fun e h => (n0 e h).elim) l0 [] (fun e h => (n0 e h).elim) l0 1 (by decide) (by omega)
 have d3 := zcj A' K' up 0 false [] (fun e h => (n0 e h).elim) l0 P wP (by omega) [] (fun e h => (n0 e h).elim) l0 [] (fun e h => (n0 e h).elim) l0 V wV (by omega) D wD (by omega) S wS (by omega) [] (fun e h => (n0 e h).elim) l0 [] (fun e h => (n0 e h).elim) l0 1 (by decide) (by omega)
 have y2 : ¬ ((1 + cnG szFl [] + cnG szSt P + cnG szSl [] + cnG szIt [] + cnG szSt V + cnG szBo D + cnG szSv S + cnG szSt [] + cnG szIt [] : Nat) : Int) < 0 := by omega
 generalize ((1 + cnG szFl [] + cnG szSt P + cnG szSl [] + cnG szIt [] + cnG szSt V + cnG szBo D + cnG szSv S + cnG szSt [] + cnG szIt [] : Nat) : Int) = m2' at d2 d3 y2
 have y3 : m2' = m2' := rfl
 have y4 : ok = ok := rfl
 generalize mkG elSt szSt _ P = p2 at d2 d3
 generalize mkG elSt szSt _ V = p5 at d2 d3
 generalize mkG elBo szBo _ D = p6 at d2 d3
 generalize mkG elSv szSv _ S = p7 at d2 d3
 clear e1 e2 e3 z1 z2 z3 z4 n0 l0 ho wP wV wD wS lP lV lD lS bS uP uV uD uS
 refine z01 z03 1 rfl Tryz.func6 rfl rfl rfl ?_
 conv => arg 6; whnf
 repeat ((try conv => whnf); first | (with_reducible first | refine z0c (fun Qs hN hE hR => ?_) | refine z0a ?_ | refine z04 (fun Qb kN kE kX kR => ?_) | refine z06 ?_ | refine z07 ?_ | refine z0b ?_ | refine z08 ?_ | refine z09 ?_ | (show W _ _ _ (.cond _ _ _) _ _; refine z05 rfl ?_) | (refine hN _ ?_; try clear hN hE hR Qs) | ((first | refine hE _ _ ?_ | refine hR _ ?_); try clear hN hE hR Qs) | ((first | refine kN _ ?_ | refine kE _ ?_ | refine kX _ _ rfl ?_ | refine kR _ ?_); try clear kN kE kX kR Qb)) | (refine ccA ([]) (s1) ?_) | (refine stpQ ?_))
 repeat ((try conv => whnf); first | (with_reducible first | refine z0c (fun Qs hN hE hR => ?_) | refine z0a ?_ | refine z04 (fun Qb kN kE kX kR => ?_) | refine z06 ?_ | refine z07 ?_ | refine z0b ?_ | refine z08 ?_ | refine z09 ?_ | (show W _ _ _ (.cond _ _ _) _ _; refine z05 rfl ?_) | (refine hN _ ?_; try clear hN hE hR Qs) | ((first | refine hE _ _ ?_ | refine hR _ ?_); try clear hN hE hR Qs) | ((first | refine kN _ ?_ | refine kE _ ?_ | refine kX _ _ rfl ?_ | refine kR _ ?_); try clear kN kE kX kR Qb)) | (refine ccA ([]) (s2) ?_) | (refine ccA ([]) (u1) ?_) | (refine ccB ([_, _, _, _, _, _, _, _, _]) (d2) ?_) | (refine ccB ([_, _, _, _, _, _, _, _, _]) (d3) ?_) | (refine z0j y2 ?_) | (refine z0S y3 ?_) | (refine z0S y4 ?_) | (refine And.intro (by kernel_rfl) ?_) | (refine stpQ ?_))
 (refine z00 (by rfl) ?_ ?_ (by rfl)) <;> (repeat' (first | (exact eqA) | (refine shE ?_) | (refine And.intro ?_ ?_)))
end
end Go.Proofs.YtnhcfmmdaihneaaGreatDoor
