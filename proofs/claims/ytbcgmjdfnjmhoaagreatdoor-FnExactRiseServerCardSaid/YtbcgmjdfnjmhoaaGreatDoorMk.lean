/- Functions by content: flat rows are marked and looked at by the exact laws. Functions by content: rows that own rows are marked and looked at by the exact laws. Functions by content: structs are marked and looked at by the exact laws. -/
import Derived.Test.YtbcgmjdfnjmhoaaGreatDoorVy
import Derived.Test.YtbcgmjdfnjmhoaaGreatDoorXt
import Derived.Test.YtbcgmjdfnjmhoaaGreatDoorPlainM
namespace Go.Proofs.YtbcgmjdfnjmhoaaGreatDoor
set_option maxRecDepth 100000
set_option maxHeartbeats 4000000
set_option linter.unusedVariables false
set_option linter.unusedSimpArgs false
set_option linter.unusedSectionVars false
open Go.RowKit Pl
theorem zeF : ∀ (n : Nat) (out : Bs), (decG n out).length ≤ out.length + n := by
 intro n
 induction n using Nat.strongRecOn with
 | _ n ih =>
   intro out
   by_cases h : n = 0
   ·subst h; rw [z71]; omega
   ·rw [z72 h]
    have h1 : n / 10 < n := Nat.div_lt_self (by omega) (by omega)
    have := ih (n / 10) h1 (UInt8.ofNat (48 + n % 10) :: out)
    rw [List.length_cons] at this
    omega
def elIt (k : Nat) (_ : List T) : List T := [.int .i64 ((k : Nat) : Int)]
def szIt (_ : List T) : Nat := 1
def WfIt (es : List (List T)) : Prop := ∀ e ∈ es, ∃ a0 : Int, e = [.int .i64 a0]
def elFl (k : Nat) (_ : List T) : List T := [.str (z0k (k)), .str (z0k (k + 1)), .int .i64 ((k + 1 + 1 : Nat) : Int)]
def szFl (_ : List T) : Nat := 3
def WfFl (es : List (List T)) : Prop := ∀ e ∈ es, ∃ a0 : Bs, ∃ a1 : Bs, ∃ a2 : Int, e = [.str a0, .str a1, .int .i64 a2]
def elLf (k : Nat) (_ : List T) : List T := [.str (z0k (k)), .str (z0k (k + 1))]
def szLf (_ : List T) : Nat := 2
def WfLf (es : List (List T)) : Prop := ∀ e ∈ es, ∃ a0 : Bs, ∃ a1 : Bs, e = [.str a0, .str a1]
def elCh (k : Nat) (_ : List T) : List T := [.int .i64 ((k : Nat) : Int), .str (z0k (k + 1)), .str (z0k (k + 1 + 1))]
def szCh (_ : List T) : Nat := 3
def WfCh (es : List (List T)) : Prop := ∀ e ∈ es, ∃ a0 : Int, ∃ a1 : Bs, ∃ a2 : Bs, e = [.int .i64 a0, .str a1, .str a2]
section
attribute [local irreducible] z0F z0I z0T AnsP LeP W
theorem z0O (n : Nat) (hn : 0 < n) (hb : n ≤ 1000000000000000000) : CT Tryz.prog 135 [] [.int .i64 (n : Int)] (.str (z0k n)) [] := by
 have f0 : ¬ (n : Int) ≤ 0 := by omega
 have hm : z0k n = [109] ++ decG n [] := by rw [z0k, if_neg (by omega)]; rfl
 rw [hm]
 clear hm
 refine z01 z03 1 rfl Tryz.func135 rfl rfl rfl ?_
 conv => arg 6; whnf
 repeat ((try conv => whnf); first | (with_reducible (refine z0n (fun Qs hN hE hR => ?_))) | (with_reducible (refine z0l ?_)) | (with_reducible (refine z05 (fun Qb kN kE kX kR => ?_))) | (with_reducible (refine z08 ?_)) | (with_reducible (refine z09 ?_)) | (with_reducible (refine z0m ?_)) | (with_reducible (refine z0a ?_)) | (with_reducible (refine z0b ?_)) | (with_reducible (show W _ _ _ (.cond _ _ _) _ _); refine z07 rfl ?_) | (with_reducible (refine hN _ ?_); (try clear hN hE hR Qs)) | (with_reducible (refine hE _ _ ?_); (try clear hN hE hR Qs)) | (with_reducible (refine hR _ ?_); (try clear hN hE hR Qs)) | (with_reducible (refine kN _ ?_); (try clear kN kE kX kR Qb)) | (with_reducible (refine kE _ ?_); (try clear kN kE kX kR Qb)) | (with_reducible (refine kX _ _ rfl ?_); (try clear kN kE kX kR Qb)) | (with_reducible (refine kR _ ?_); (try clear kN kE kX kR Qb)) | (refine z0i f0 ?_) | (refine stpQ ?_))
 refine z0A 0 ⟨[(3, .str (decG n []))], [], 2⟩ (Nat × Bs) (fun x => ⟨[(0, .int .i64 (x.1 : Int)), (3, .str x.2)], [], 2⟩) (fun x => decG x.1 x.2 = decG n [] ∧ (x.2.length : Int) + x.1 ≤ 1000000000000000000) (fun x => x.1) (n, []) ⟨rfl, by simp; omega⟩ ?_ ?_ ?_
 ·(refine z02 (by rfl) ?_ ?_) <;> (repeat' (first | (exact eqA) | (refine shE ?_) | (refine And.intro ?_ ?_))) <;> first | rfl | decide
 ·intro x hx
  obtain ⟨m, out⟩ := x
  have h1 : decG m out = decG n [] := hx.1
  have h2 : (out.length : Int) + m ≤ 1000000000000000000 := hx.2
  clear hx
  by_cases hm : m = 0
  ·subst hm
   rw [z71] at h1
   repeat ((try conv => whnf); first | (with_reducible (refine z0n (fun Qs hN hE hR => ?_))) | (with_reducible (refine z0l ?_)) | (with_reducible (refine z05 (fun Qb kN kE kX kR => ?_))) | (with_reducible (refine z08 ?_)) | (with_reducible (refine z09 ?_)) | (with_reducible (refine z0m ?_)) | (with_reducible (refine z0a ?_)) | (with_reducible (refine z0b ?_)) | (with_reducible (show W _ _ _ (.cond _ _ _) _ _); refine z07 rfl ?_) | (with_reducible (refine hN _ ?_); (try clear hN hE hR Qs)) | (with_reducible (refine hE _ _ ?_); (try clear hN hE hR Qs)) | (with_reducible (refine hR _ ?_); (try clear hN hE hR Qs)) | (with_reducible (refine kN _ ?_); (try clear kN kE kX kR Qb)) | (with_reducible (refine kE _ ?_); (try clear kN kE kX kR Qb)) | (with_reducible (refine kX _ _ rfl ?_); (try clear kN kE kX kR Qb)) | (with_reducible (refine kR _ ?_); (try clear kN kE kX kR Qb)) | (refine stpQ ?_))
   (refine z02 (by rfl) ?_ ?_) <;> (repeat' (first | (exact eqA) | (refine shE ?_) | (refine And.intro ?_ ?_))) <;> exact h1
  ·have hd : m / 10 < m := Nat.div_lt_self (by omega) (by omega)
   have fm : (m : Int) > 0 := by omega
   repeat ((try conv => whnf); first | (with_reducible (refine z0n (fun Qs hN hE hR => ?_))) | (with_reducible (refine z0l ?_)) | (with_reducible (refine z05 (fun Qb kN kE kX kR => ?_))) | (with_reducible (refine z08 ?_)) | (with_reducible (refine z09 ?_)) | (with_reducible (refine z0m ?_)) | (with_reducible (refine z0a ?_)) | (with_reducible (refine z0b ?_)) | (with_reducible (show W _ _ _ (.cond _ _ _) _ _); refine z07 rfl ?_) | (with_reducible (refine hN _ ?_); (try clear hN hE hR Qs)) | (with_reducible (refine hE _ _ ?_); (try clear hN hE hR Qs)) | (with_reducible (refine hR _ ?_); (try clear hN hE hR Qs)) | (with_reducible (refine kN _ ?_); (try clear kN kE kX kR Qb)) | (with_reducible (refine kE _ ?_); (try clear kN kE kX kR Qb)) | (with_reducible (refine kX _ _ rfl ?_); (try clear kN kE kX kR Qb)) | (with_reducible (refine kR _ ?_); (try clear kN kE kX kR Qb)) | (refine z0t fm ?_) | (refine z9c (n := nat_lit 10) ?_) | (refine w_addl (by omega) ?_) | (refine w_u8 ?_) | (refine w_quon (n := nat_lit 10) (by omega) ?_) | (refine Exists.intro [UInt8.ofNat (48 + m % 10)] (And.intro rfl ?_)) | (refine And.intro (by simp only [List.length_cons, List.length_nil]; omega) ?_) | (refine stpQ ?_))
   refine ⟨(m / 10, UInt8.ofNat (48 + m % 10) :: out), ⟨by show decG (m / 10) _ = _; rw [← h1, z72 hm], ?_⟩, hd, ?_⟩
   ·show (((UInt8.ofNat (48 + m % 10) :: out).length : Nat) : Int) + ((m / 10 : Nat) : Int) ≤ 1000000000000000000
    rw [List.length_cons]; omega
   ·(refine z02 (by rfl) ?_ ?_) <;> (repeat' (first | (exact eqA) | (refine shE ?_) | (refine And.intro ?_ ?_))) <;> rfl
 ·have hle : (decG n []).length ≤ n := by have := zeF n []; simpa using this
  generalize decG n [] = o at *
  repeat ((try conv => whnf); first | (with_reducible (refine z0n (fun Qs hN hE hR => ?_))) | (with_reducible (refine z0l ?_)) | (with_reducible (refine z05 (fun Qb kN kE kX kR => ?_))) | (with_reducible (refine z08 ?_)) | (with_reducible (refine z09 ?_)) | (with_reducible (refine z0m ?_)) | (with_reducible (refine z0a ?_)) | (with_reducible (refine z0b ?_)) | (with_reducible (show W _ _ _ (.cond _ _ _) _ _); refine z07 rfl ?_) | (with_reducible (refine hN _ ?_); (try clear hN hE hR Qs)) | (with_reducible (refine hE _ _ ?_); (try clear hN hE hR Qs)) | (with_reducible (refine hR _ ?_); (try clear hN hE hR Qs)) | (with_reducible (refine kN _ ?_); (try clear kN kE kX kR Qb)) | (with_reducible (refine kE _ ?_); (try clear kN kE kX kR Qb)) | (with_reducible (refine kX _ _ rfl ?_); (try clear kN kE kX kR Qb)) | (with_reducible (refine kR _ ?_); (try clear kN kE kX kR Qb)) | (refine And.intro (by simp only [List.length_cons, List.length_nil]; omega) ?_) | (refine stpQ ?_))
  (refine z00 (by rfl) ?_ ?_ (by rfl)) <;> (repeat' (first | (exact eqA) | (refine shE ?_) | (refine And.intro ?_ ?_)))
theorem zaf (es : List (List T)) (hw : WfIt es) (k : Nat) (hk : 0 < k) (hb : k + cnG szIt es ≤ 1000000000000000000) (hl : (es.length : Int) ≤ 1000000000) :
 CT Tryz.prog 55 [.deep 1 es []] [.ref 1, .int .i64 (k : Int)] (.int .i64 ((k + cnG szIt es : Nat) : Int)) [.deep 1 (mkG elIt szIt k es) []] := by
 refine z01 z03 2 rfl Tryz.func55 rfl rfl rfl ?_
 conv => arg 6; whnf
 repeat ((try conv => whnf); first | (with_reducible (refine z0n (fun Qs hN hE hR => ?_))) | (with_reducible (refine z0l ?_)) | (with_reducible (refine z05 (fun Qb kN kE kX kR => ?_))) | (with_reducible (refine z08 ?_)) | (with_reducible (refine z09 ?_)) | (with_reducible (refine z0m ?_)) | (with_reducible (refine z0a ?_)) | (with_reducible (refine z0b ?_)) | (with_reducible (show W _ _ _ (.cond _ _ _) _ _); refine z07 rfl ?_) | (with_reducible (refine hN _ ?_); (try clear hN hE hR Qs)) | (with_reducible (refine hE _ _ ?_); (try clear hN hE hR Qs)) | (with_reducible (refine hR _ ?_); (try clear hN hE hR Qs)) | (with_reducible (refine kN _ ?_); (try clear kN kE kX kR Qb)) | (with_reducible (refine kE _ ?_); (try clear kN kE kX kR Qb)) | (with_reducible (refine kX _ _ rfl ?_); (try clear kN kE kX kR Qb)) | (with_reducible (refine kR _ ?_); (try clear kN kE kX kR Qb)) | (refine stpQ ?_))
 refine z0A 0 ⟨[(1, .int .i64 ((k + cnG szIt es : Nat) : Int))], [(1, some (.deep 1 (mkG elIt szIt k es) []))], 2⟩ Nat (fun i => ⟨[(0, .ref 1), (1, .int .i64 ((k + cnG szIt (es.take i) : Nat) : Int)), (5, .int .i64 (i : Int))], [(1, some (.deep 1 (rwG elIt szIt k es i) []))], 2⟩) (fun i => i ≤ es.length) (fun i => es.length - i) 0 (Nat.zero_le _) ?_ ?_ ?_
 ·(refine z02 (by rfl) ?_ ?_) <;> (repeat' (first | (exact eqA) | (refine shE ?_) | (refine And.intro ?_ ?_))) <;> first | rfl | decide
 ·intro i hi
  have hlen := z50 elIt szIt (k := k) hi
  by_cases hlt : i < es.length
  ·have f1 : (i : Int) < ((rwG elIt szIt k es i).length : Int) := by omega
   have i1 : i < (rwG elIt szIt k es i).length := by omega
   have g := z7t elIt szIt (k := k) hlt
   have hnx : (rwG elIt szIt k es i).set i [.int .i64 (((k + cnG szIt (es.take i)) : Nat) : Int)] = rwG elIt szIt k es (i + 1) := z3y elIt szIt (k := k) hlt
   have hcn : cnG szIt (es.take (i + 1)) = cnG szIt (es.take i) + 1 := z1A szIt hlt
   have hcl := z2P szIt (es := es) (i := i + 1)
   have e10 : k + cnG szIt (es.take (i + 1)) = (k + cnG szIt (es.take i)) + 1 := by omega
   obtain ⟨a0, he⟩ := hw _ (List.getElem_mem hlt)
   rw [he] at g
   have hnp : 0 < k + cnG szIt (es.take i) := by omega
   have hnb : k + cnG szIt (es.take i) + 1 ≤ 1000000000000000000 := by omega
   generalize rwG elIt szIt k es i = R at *
   generalize k + cnG szIt (es.take i) = n at *
   clear hb hk hcn hcl he hw
   have h1 : ∀ X, i < (R.set i X).length := fun X => by rw [List.length_set]; exact i1
   have gs : ∀ X, (R.set i X)[i]? = some X := fun X => by rw [List.getElem?_set_self i1]
   repeat ((try conv => whnf); first | (with_reducible (refine z0n (fun Qs hN hE hR => ?_))) | (with_reducible (refine z0l ?_)) | (with_reducible (refine z05 (fun Qb kN kE kX kR => ?_))) | (with_reducible (refine z08 ?_)) | (with_reducible (refine z09 ?_)) | (with_reducible (refine z0m ?_)) | (with_reducible (refine z0a ?_)) | (with_reducible (refine z0b ?_)) | (with_reducible (show W _ _ _ (.cond _ _ _) _ _); refine z07 rfl ?_) | (with_reducible (refine hN _ ?_); (try clear hN hE hR Qs)) | (with_reducible (refine hE _ _ ?_); (try clear hN hE hR Qs)) | (with_reducible (refine hR _ ?_); (try clear hN hE hR Qs)) | (with_reducible (refine kN _ ?_); (try clear kN kE kX kR Qb)) | (with_reducible (refine kE _ ?_); (try clear kN kE kX kR Qb)) | (with_reducible (refine kX _ _ rfl ?_); (try clear kN kE kX kR Qb)) | (with_reducible (refine kR _ ?_); (try clear kN kE kX kR Qb)) | (refine z0t f1 ?_) | (refine And.intro i1 ?_) | (refine And.intro (h1 _) ?_) | (refine Exists.intro _ (And.intro g ?_)) | (refine Exists.intro _ (And.intro (gs _) ?_)) | (refine And.intro (by kernel_rfl) ?_) | (rw [List.set_set]) | (refine stpQ ?_))
   refine ⟨i + 1, hlt, by omega, ?_⟩
   rw [e10]
   (refine z02 (by rfl) ?_ ?_) <;> (repeat' (first | (exact eqA) | (refine shE ?_) | (refine And.intro ?_ ?_))) <;> first | rfl | exact hnx | (rw [List.set_set]; exact hnx)
  ·have hie : i = es.length := by omega
   subst hie
   have f1 : ¬ (es.length : Int) < ((rwG elIt szIt k es es.length).length : Int) := by omega
   repeat ((try conv => whnf); first | (with_reducible (refine z0n (fun Qs hN hE hR => ?_))) | (with_reducible (refine z0l ?_)) | (with_reducible (refine z05 (fun Qb kN kE kX kR => ?_))) | (with_reducible (refine z08 ?_)) | (with_reducible (refine z09 ?_)) | (with_reducible (refine z0m ?_)) | (with_reducible (refine z0a ?_)) | (with_reducible (refine z0b ?_)) | (with_reducible (show W _ _ _ (.cond _ _ _) _ _); refine z07 rfl ?_) | (with_reducible (refine hN _ ?_); (try clear hN hE hR Qs)) | (with_reducible (refine hE _ _ ?_); (try clear hN hE hR Qs)) | (with_reducible (refine hR _ ?_); (try clear hN hE hR Qs)) | (with_reducible (refine kN _ ?_); (try clear kN kE kX kR Qb)) | (with_reducible (refine kE _ ?_); (try clear kN kE kX kR Qb)) | (with_reducible (refine kX _ _ rfl ?_); (try clear kN kE kX kR Qb)) | (with_reducible (refine kR _ ?_); (try clear kN kE kX kR Qb)) | (refine z0i f1 ?_) | (refine stpQ ?_))
   rw [List.take_length]
   (refine z02 (by rfl) ?_ ?_) <;> (repeat' (first | (exact eqA) | (refine shE ?_) | (refine And.intro ?_ ?_))) <;> first | rfl | exact z3O _ _ _ _
 ·repeat ((try conv => whnf); first | (with_reducible (refine z0n (fun Qs hN hE hR => ?_))) | (with_reducible (refine z0l ?_)) | (with_reducible (refine z05 (fun Qb kN kE kX kR => ?_))) | (with_reducible (refine z08 ?_)) | (with_reducible (refine z09 ?_)) | (with_reducible (refine z0m ?_)) | (with_reducible (refine z0a ?_)) | (with_reducible (refine z0b ?_)) | (with_reducible (show W _ _ _ (.cond _ _ _) _ _); refine z07 rfl ?_) | (with_reducible (refine hN _ ?_); (try clear hN hE hR Qs)) | (with_reducible (refine hE _ _ ?_); (try clear hN hE hR Qs)) | (with_reducible (refine hR _ ?_); (try clear hN hE hR Qs)) | (with_reducible (refine kN _ ?_); (try clear kN kE kX kR Qb)) | (with_reducible (refine kE _ ?_); (try clear kN kE kX kR Qb)) | (with_reducible (refine kX _ _ rfl ?_); (try clear kN kE kX kR Qb)) | (with_reducible (refine kR _ ?_); (try clear kN kE kX kR Qb)) | (refine stpQ ?_))
  (refine z00 (by rfl) ?_ ?_ (by rfl)) <;> (repeat' (first | (exact eqA) | (refine shE ?_) | (refine And.intro ?_ ?_)))
theorem zag (es : List (List T)) (k : Nat) (hk : 0 < k) (hb : k + cnG szIt es ≤ 1000000000000000000) (hl : (es.length : Int) ≤ 1000000000) :
 CT Tryz.prog 59 [.deep 1 (mkG elIt szIt k es) []] [.ref 1, .int .i64 (k : Int)] (.int .i64 ((k + cnG szIt es : Nat) : Int)) [.deep 1 (mkG elIt szIt k es) []] := by
 have hlen := z1U elIt szIt k es
 refine z01 z03 2 rfl Tryz.func59 rfl rfl rfl ?_
 conv => arg 6; whnf
 repeat ((try conv => whnf); first | (with_reducible (refine z0n (fun Qs hN hE hR => ?_))) | (with_reducible (refine z0l ?_)) | (with_reducible (refine z05 (fun Qb kN kE kX kR => ?_))) | (with_reducible (refine z08 ?_)) | (with_reducible (refine z09 ?_)) | (with_reducible (refine z0m ?_)) | (with_reducible (refine z0a ?_)) | (with_reducible (refine z0b ?_)) | (with_reducible (show W _ _ _ (.cond _ _ _) _ _); refine z07 rfl ?_) | (with_reducible (refine hN _ ?_); (try clear hN hE hR Qs)) | (with_reducible (refine hE _ _ ?_); (try clear hN hE hR Qs)) | (with_reducible (refine hR _ ?_); (try clear hN hE hR Qs)) | (with_reducible (refine kN _ ?_); (try clear kN kE kX kR Qb)) | (with_reducible (refine kE _ ?_); (try clear kN kE kX kR Qb)) | (with_reducible (refine kX _ _ rfl ?_); (try clear kN kE kX kR Qb)) | (with_reducible (refine kR _ ?_); (try clear kN kE kX kR Qb)) | (refine stpQ ?_))
 refine z2B Nat (fun i => ⟨[(0, .ref 1), (1, .int .i64 ((k + cnG szIt (es.take i) : Nat) : Int)), (5, .int .i64 (i : Int))], [(1, some (.deep 1 (mkG elIt szIt k es) []))], 2⟩) (fun i => i ≤ es.length) (fun i => es.length - i) 0 (Nat.zero_le _) ?_ ?_
 ·(refine z02 (by rfl) ?_ ?_) <;> (repeat' (first | (exact eqA) | (refine shE ?_) | (refine And.intro ?_ ?_))) <;> first | rfl | decide
 ·intro Q1 hQ1 i hi
  by_cases hlt : i < es.length
  ·have f1 : (i : Int) < ((mkG elIt szIt k es).length : Int) := by omega
   have i1 : i < (mkG elIt szIt k es).length := by omega
   have g : (mkG elIt szIt k es)[i]? = some [.int .i64 (((k + cnG szIt (es.take i)) : Nat) : Int)] := z4Z elIt szIt k hlt
   have hcn : cnG szIt (es.take (i + 1)) = cnG szIt (es.take i) + 1 := z1A szIt hlt
   have hcl := z2P szIt (es := es) (i := i + 1)
   have e10 : k + cnG szIt (es.take (i + 1)) = (k + cnG szIt (es.take i)) + 1 := by omega
   have hnp : 0 < k + cnG szIt (es.take i) := by omega
   have hnb : k + cnG szIt (es.take i) + 1 ≤ 1000000000000000000 := by omega
   generalize mkG elIt szIt k es = R at *
   generalize k + cnG szIt (es.take i) = n at *
   clear hb hk hcn hcl
   have q0 : ((n : Nat) : Int) = ((n : Nat) : Int) := rfl
   repeat ((try conv => whnf); first | (with_reducible (refine z0n (fun Qs hN hE hR => ?_))) | (with_reducible (refine z0l ?_)) | (with_reducible (refine z05 (fun Qb kN kE kX kR => ?_))) | (with_reducible (refine z08 ?_)) | (with_reducible (refine z09 ?_)) | (with_reducible (refine z0m ?_)) | (with_reducible (refine z0a ?_)) | (with_reducible (refine z0b ?_)) | (with_reducible (show W _ _ _ (.cond _ _ _) _ _); refine z07 rfl ?_) | (with_reducible (refine hN _ ?_); (try clear hN hE hR Qs)) | (with_reducible (refine hE _ _ ?_); (try clear hN hE hR Qs)) | (with_reducible (refine hR _ ?_); (try clear hN hE hR Qs)) | (with_reducible (refine kN _ ?_); (try clear kN kE kX kR Qb)) | (with_reducible (refine kE _ ?_); (try clear kN kE kX kR Qb)) | (with_reducible (refine kX _ _ rfl ?_); (try clear kN kE kX kR Qb)) | (with_reducible (refine kR _ ?_); (try clear kN kE kX kR Qb)) | (refine z0t f1 ?_) | (refine And.intro i1 ?_) | (refine Exists.intro _ (And.intro g ?_)) | (refine z1v q0 ?_) | (refine And.intro (by kernel_rfl) ?_) | (refine stpQ ?_))
   refine ⟨i + 1, hlt, by omega, ?_⟩
   rw [e10]
   (refine z02 (by rfl) ?_ ?_) <;> (repeat' (first | (exact eqA) | (refine shE ?_) | (refine And.intro ?_ ?_)))
  ·have hie : i = es.length := by omega
   subst hie
   have f1 : ¬ (es.length : Int) < ((mkG elIt szIt k es).length : Int) := by omega
   repeat ((try conv => whnf); first | (with_reducible (refine z0n (fun Qs hN hE hR => ?_))) | (with_reducible (refine z0l ?_)) | (with_reducible (refine z05 (fun Qb kN kE kX kR => ?_))) | (with_reducible (refine z08 ?_)) | (with_reducible (refine z09 ?_)) | (with_reducible (refine z0m ?_)) | (with_reducible (refine z0a ?_)) | (with_reducible (refine z0b ?_)) | (with_reducible (show W _ _ _ (.cond _ _ _) _ _); refine z07 rfl ?_) | (with_reducible (refine hN _ ?_); (try clear hN hE hR Qs)) | (with_reducible (refine hE _ _ ?_); (try clear hN hE hR Qs)) | (with_reducible (refine hR _ ?_); (try clear hN hE hR Qs)) | (with_reducible (refine kN _ ?_); (try clear kN kE kX kR Qb)) | (with_reducible (refine kE _ ?_); (try clear kN kE kX kR Qb)) | (with_reducible (refine kX _ _ rfl ?_); (try clear kN kE kX kR Qb)) | (with_reducible (refine kR _ ?_); (try clear kN kE kX kR Qb)) | (refine z0i f1 ?_) | (refine stpQ ?_))
   refine hQ1 _ _ ?_
   clear hQ1 Q1
   rw [List.take_length]
   repeat ((try conv => whnf); first | (with_reducible (refine z0n (fun Qs hN hE hR => ?_))) | (with_reducible (refine z0l ?_)) | (with_reducible (refine z05 (fun Qb kN kE kX kR => ?_))) | (with_reducible (refine z08 ?_)) | (with_reducible (refine z09 ?_)) | (with_reducible (refine z0m ?_)) | (with_reducible (refine z0a ?_)) | (with_reducible (refine z0b ?_)) | (with_reducible (show W _ _ _ (.cond _ _ _) _ _); refine z07 rfl ?_) | (with_reducible (refine hN _ ?_); (try clear hN hE hR Qs)) | (with_reducible (refine hE _ _ ?_); (try clear hN hE hR Qs)) | (with_reducible (refine hR _ ?_); (try clear hN hE hR Qs)) | (with_reducible (refine kN _ ?_); (try clear kN kE kX kR Qb)) | (with_reducible (refine kE _ ?_); (try clear kN kE kX kR Qb)) | (with_reducible (refine kX _ _ rfl ?_); (try clear kN kE kX kR Qb)) | (with_reducible (refine kR _ ?_); (try clear kN kE kX kR Qb)) | (refine stpQ ?_))
   (refine z00 (by rfl) ?_ ?_ (by rfl)) <;> (repeat' (first | (exact eqA) | (refine shE ?_) | (refine And.intro ?_ ?_)))
theorem z8i (es : List (List T)) (hw : WfFl es) (k : Nat) (hk : 0 < k) (hb : k + cnG szFl es ≤ 1000000000000000000) (hl : (es.length : Int) ≤ 1000000000) :
 CT Tryz.prog 53 [.deep 3 es []] [.ref 1, .int .i64 (k : Int)] (.int .i64 ((k + cnG szFl es : Nat) : Int)) [.deep 3 (mkG elFl szFl k es) []] := by
 refine z01 z03 2 rfl Tryz.func53 rfl rfl rfl ?_
 conv => arg 6; whnf
 repeat ((try conv => whnf); first | (with_reducible (refine z0n (fun Qs hN hE hR => ?_))) | (with_reducible (refine z0l ?_)) | (with_reducible (refine z05 (fun Qb kN kE kX kR => ?_))) | (with_reducible (refine z08 ?_)) | (with_reducible (refine z09 ?_)) | (with_reducible (refine z0m ?_)) | (with_reducible (refine z0a ?_)) | (with_reducible (refine z0b ?_)) | (with_reducible (show W _ _ _ (.cond _ _ _) _ _); refine z07 rfl ?_) | (with_reducible (refine hN _ ?_); (try clear hN hE hR Qs)) | (with_reducible (refine hE _ _ ?_); (try clear hN hE hR Qs)) | (with_reducible (refine hR _ ?_); (try clear hN hE hR Qs)) | (with_reducible (refine kN _ ?_); (try clear kN kE kX kR Qb)) | (with_reducible (refine kE _ ?_); (try clear kN kE kX kR Qb)) | (with_reducible (refine kX _ _ rfl ?_); (try clear kN kE kX kR Qb)) | (with_reducible (refine kR _ ?_); (try clear kN kE kX kR Qb)) | (refine stpQ ?_))
 refine z0A 0 ⟨[(1, .int .i64 ((k + cnG szFl es : Nat) : Int))], [(1, some (.deep 3 (mkG elFl szFl k es) []))], 2⟩ Nat (fun i => ⟨[(0, .ref 1), (1, .int .i64 ((k + cnG szFl (es.take i) : Nat) : Int)), (5, .int .i64 (i : Int))], [(1, some (.deep 3 (rwG elFl szFl k es i) []))], 2⟩) (fun i => i ≤ es.length) (fun i => es.length - i) 0 (Nat.zero_le _) ?_ ?_ ?_
 ·(refine z02 (by rfl) ?_ ?_) <;> (repeat' (first | (exact eqA) | (refine shE ?_) | (refine And.intro ?_ ?_))) <;> first | rfl | decide
 ·intro i hi
  have hlen := z50 elFl szFl (k := k) hi
  by_cases hlt : i < es.length
  ·have f1 : (i : Int) < ((rwG elFl szFl k es i).length : Int) := by omega
   have i1 : i < (rwG elFl szFl k es i).length := by omega
   have g := z7t elFl szFl (k := k) hlt
   have hnx : (rwG elFl szFl k es i).set i [.str (z0k ((k + cnG szFl (es.take i)))), .str (z0k ((k + cnG szFl (es.take i)) + 1)), .int .i64 (((k + cnG szFl (es.take i)) + 1 + 1 : Nat) : Int)] = rwG elFl szFl k es (i + 1) := z3y elFl szFl (k := k) hlt
   have hcn : cnG szFl (es.take (i + 1)) = cnG szFl (es.take i) + 3 := z1A szFl hlt
   have hcl := z2P szFl (es := es) (i := i + 1)
   have e10 : k + cnG szFl (es.take (i + 1)) = (k + cnG szFl (es.take i)) + 1 + 1 + 1 := by omega
   obtain ⟨a0, a1, a2, he⟩ := hw _ (List.getElem_mem hlt)
   rw [he] at g
   have hnp : 0 < k + cnG szFl (es.take i) := by omega
   have hnb : k + cnG szFl (es.take i) + 3 ≤ 1000000000000000000 := by omega
   generalize rwG elFl szFl k es i = R at *
   generalize k + cnG szFl (es.take i) = n at *
   clear hb hk hcn hcl he hw
   have m0 := z0O (n) (by omega) (by omega)
   generalize z0k (n) = t0 at *
   have m1 := z0O (n + 1) (by omega) (by omega)
   generalize z0k (n + 1) = t1 at *
   have h1 : ∀ X, i < (R.set i X).length := fun X => by rw [List.length_set]; exact i1
   have gs : ∀ X, (R.set i X)[i]? = some X := fun X => by rw [List.getElem?_set_self i1]
   repeat ((try conv => whnf); first | (with_reducible (refine z0n (fun Qs hN hE hR => ?_))) | (with_reducible (refine z0l ?_)) | (with_reducible (refine z05 (fun Qb kN kE kX kR => ?_))) | (with_reducible (refine z08 ?_)) | (with_reducible (refine z09 ?_)) | (with_reducible (refine z0m ?_)) | (with_reducible (refine z0a ?_)) | (with_reducible (refine z0b ?_)) | (with_reducible (show W _ _ _ (.cond _ _ _) _ _); refine z07 rfl ?_) | (with_reducible (refine hN _ ?_); (try clear hN hE hR Qs)) | (with_reducible (refine hE _ _ ?_); (try clear hN hE hR Qs)) | (with_reducible (refine hR _ ?_); (try clear hN hE hR Qs)) | (with_reducible (refine kN _ ?_); (try clear kN kE kX kR Qb)) | (with_reducible (refine kE _ ?_); (try clear kN kE kX kR Qb)) | (with_reducible (refine kX _ _ rfl ?_); (try clear kN kE kX kR Qb)) | (with_reducible (refine kR _ ?_); (try clear kN kE kX kR Qb)) | (refine z0t f1 ?_) | (refine And.intro i1 ?_) | (refine And.intro (h1 _) ?_) | (refine Exists.intro _ (And.intro g ?_)) | (refine Exists.intro _ (And.intro (gs _) ?_)) | (refine ccA ([]) (m0) ?_) | (refine ccA ([]) (m1) ?_) | (refine And.intro (by kernel_rfl) ?_) | (rw [List.set_set]) | (refine stpQ ?_))
   refine ⟨i + 1, hlt, by omega, ?_⟩
   rw [e10]
   (refine z02 (by rfl) ?_ ?_) <;> (repeat' (first | (exact eqA) | (refine shE ?_) | (refine And.intro ?_ ?_))) <;> first | rfl | exact hnx | (rw [List.set_set]; exact hnx)
  ·have hie : i = es.length := by omega
   subst hie
   have f1 : ¬ (es.length : Int) < ((rwG elFl szFl k es es.length).length : Int) := by omega
   repeat ((try conv => whnf); first | (with_reducible (refine z0n (fun Qs hN hE hR => ?_))) | (with_reducible (refine z0l ?_)) | (with_reducible (refine z05 (fun Qb kN kE kX kR => ?_))) | (with_reducible (refine z08 ?_)) | (with_reducible (refine z09 ?_)) | (with_reducible (refine z0m ?_)) | (with_reducible (refine z0a ?_)) | (with_reducible (refine z0b ?_)) | (with_reducible (show W _ _ _ (.cond _ _ _) _ _); refine z07 rfl ?_) | (with_reducible (refine hN _ ?_); (try clear hN hE hR Qs)) | (with_reducible (refine hE _ _ ?_); (try clear hN hE hR Qs)) | (with_reducible (refine hR _ ?_); (try clear hN hE hR Qs)) | (with_reducible (refine kN _ ?_); (try clear kN kE kX kR Qb)) | (with_reducible (refine kE _ ?_); (try clear kN kE kX kR Qb)) | (with_reducible (refine kX _ _ rfl ?_); (try clear kN kE kX kR Qb)) | (with_reducible (refine kR _ ?_); (try clear kN kE kX kR Qb)) | (refine z0i f1 ?_) | (refine stpQ ?_))
   rw [List.take_length]
   (refine z02 (by rfl) ?_ ?_) <;> (repeat' (first | (exact eqA) | (refine shE ?_) | (refine And.intro ?_ ?_))) <;> first | rfl | exact z3O _ _ _ _
 ·repeat ((try conv => whnf); first | (with_reducible (refine z0n (fun Qs hN hE hR => ?_))) | (with_reducible (refine z0l ?_)) | (with_reducible (refine z05 (fun Qb kN kE kX kR => ?_))) | (with_reducible (refine z08 ?_)) | (with_reducible (refine z09 ?_)) | (with_reducible (refine z0m ?_)) | (with_reducible (refine z0a ?_)) | (with_reducible (refine z0b ?_)) | (with_reducible (show W _ _ _ (.cond _ _ _) _ _); refine z07 rfl ?_) | (with_reducible (refine hN _ ?_); (try clear hN hE hR Qs)) | (with_reducible (refine hE _ _ ?_); (try clear hN hE hR Qs)) | (with_reducible (refine hR _ ?_); (try clear hN hE hR Qs)) | (with_reducible (refine kN _ ?_); (try clear kN kE kX kR Qb)) | (with_reducible (refine kE _ ?_); (try clear kN kE kX kR Qb)) | (with_reducible (refine kX _ _ rfl ?_); (try clear kN kE kX kR Qb)) | (with_reducible (refine kR _ ?_); (try clear kN kE kX kR Qb)) | (refine stpQ ?_))
  (refine z00 (by rfl) ?_ ?_ (by rfl)) <;> (repeat' (first | (exact eqA) | (refine shE ?_) | (refine And.intro ?_ ?_)))
theorem z8j (es : List (List T)) (k : Nat) (hk : 0 < k) (hb : k + cnG szFl es ≤ 1000000000000000000) (hl : (es.length : Int) ≤ 1000000000) :
 CT Tryz.prog 137 [.deep 3 (mkG elFl szFl k es) []] [.ref 1, .int .i64 (k : Int)] (.int .i64 ((k + cnG szFl es : Nat) : Int)) [.deep 3 (mkG elFl szFl k es) []] := by
 have hlen := z1U elFl szFl k es
 refine z01 z03 2 rfl Tryz.func137 rfl rfl rfl ?_
 conv => arg 6; whnf
 repeat ((try conv => whnf); first | (with_reducible (refine z0n (fun Qs hN hE hR => ?_))) | (with_reducible (refine z0l ?_)) | (with_reducible (refine z05 (fun Qb kN kE kX kR => ?_))) | (with_reducible (refine z08 ?_)) | (with_reducible (refine z09 ?_)) | (with_reducible (refine z0m ?_)) | (with_reducible (refine z0a ?_)) | (with_reducible (refine z0b ?_)) | (with_reducible (show W _ _ _ (.cond _ _ _) _ _); refine z07 rfl ?_) | (with_reducible (refine hN _ ?_); (try clear hN hE hR Qs)) | (with_reducible (refine hE _ _ ?_); (try clear hN hE hR Qs)) | (with_reducible (refine hR _ ?_); (try clear hN hE hR Qs)) | (with_reducible (refine kN _ ?_); (try clear kN kE kX kR Qb)) | (with_reducible (refine kE _ ?_); (try clear kN kE kX kR Qb)) | (with_reducible (refine kX _ _ rfl ?_); (try clear kN kE kX kR Qb)) | (with_reducible (refine kR _ ?_); (try clear kN kE kX kR Qb)) | (refine stpQ ?_))
 refine z2B Nat (fun i => ⟨[(0, .ref 1), (1, .int .i64 ((k + cnG szFl (es.take i) : Nat) : Int)), (5, .int .i64 (i : Int))], [(1, some (.deep 3 (mkG elFl szFl k es) []))], 2⟩) (fun i => i ≤ es.length) (fun i => es.length - i) 0 (Nat.zero_le _) ?_ ?_
 ·(refine z02 (by rfl) ?_ ?_) <;> (repeat' (first | (exact eqA) | (refine shE ?_) | (refine And.intro ?_ ?_))) <;> first | rfl | decide
 ·intro Q1 hQ1 i hi
  by_cases hlt : i < es.length
  ·have f1 : (i : Int) < ((mkG elFl szFl k es).length : Int) := by omega
   have i1 : i < (mkG elFl szFl k es).length := by omega
   have g : (mkG elFl szFl k es)[i]? = some [.str (z0k ((k + cnG szFl (es.take i)))), .str (z0k ((k + cnG szFl (es.take i)) + 1)), .int .i64 (((k + cnG szFl (es.take i)) + 1 + 1 : Nat) : Int)] := z4Z elFl szFl k hlt
   have hcn : cnG szFl (es.take (i + 1)) = cnG szFl (es.take i) + 3 := z1A szFl hlt
   have hcl := z2P szFl (es := es) (i := i + 1)
   have e10 : k + cnG szFl (es.take (i + 1)) = (k + cnG szFl (es.take i)) + 1 + 1 + 1 := by omega
   have hnp : 0 < k + cnG szFl (es.take i) := by omega
   have hnb : k + cnG szFl (es.take i) + 3 ≤ 1000000000000000000 := by omega
   generalize mkG elFl szFl k es = R at *
   generalize k + cnG szFl (es.take i) = n at *
   clear hb hk hcn hcl
   have m0 := z0O (n) (by omega) (by omega)
   generalize z0k (n) = t0 at *
   have r0 : t0 = t0 := rfl
   have m1 := z0O (n + 1) (by omega) (by omega)
   generalize z0k (n + 1) = t1 at *
   have r1 : t1 = t1 := rfl
   have q2 : ((n + 1 + 1 : Nat) : Int) = ((n + 1 + 1 : Nat) : Int) := rfl
   repeat ((try conv => whnf); first | (with_reducible (refine z0n (fun Qs hN hE hR => ?_))) | (with_reducible (refine z0l ?_)) | (with_reducible (refine z05 (fun Qb kN kE kX kR => ?_))) | (with_reducible (refine z08 ?_)) | (with_reducible (refine z09 ?_)) | (with_reducible (refine z0m ?_)) | (with_reducible (refine z0a ?_)) | (with_reducible (refine z0b ?_)) | (with_reducible (show W _ _ _ (.cond _ _ _) _ _); refine z07 rfl ?_) | (with_reducible (refine hN _ ?_); (try clear hN hE hR Qs)) | (with_reducible (refine hE _ _ ?_); (try clear hN hE hR Qs)) | (with_reducible (refine hR _ ?_); (try clear hN hE hR Qs)) | (with_reducible (refine kN _ ?_); (try clear kN kE kX kR Qb)) | (with_reducible (refine kE _ ?_); (try clear kN kE kX kR Qb)) | (with_reducible (refine kX _ _ rfl ?_); (try clear kN kE kX kR Qb)) | (with_reducible (refine kR _ ?_); (try clear kN kE kX kR Qb)) | (refine z0t f1 ?_) | (refine And.intro i1 ?_) | (refine Exists.intro _ (And.intro g ?_)) | (refine ccA ([]) (m0) ?_) | (refine ccA ([]) (m1) ?_) | (refine z1v r0 ?_) | (refine z1v r1 ?_) | (refine z1v q2 ?_) | (refine And.intro (by kernel_rfl) ?_) | (refine stpQ ?_))
   refine ⟨i + 1, hlt, by omega, ?_⟩
   rw [e10]
   (refine z02 (by rfl) ?_ ?_) <;> (repeat' (first | (exact eqA) | (refine shE ?_) | (refine And.intro ?_ ?_)))
  ·have hie : i = es.length := by omega
   subst hie
   have f1 : ¬ (es.length : Int) < ((mkG elFl szFl k es).length : Int) := by omega
   repeat ((try conv => whnf); first | (with_reducible (refine z0n (fun Qs hN hE hR => ?_))) | (with_reducible (refine z0l ?_)) | (with_reducible (refine z05 (fun Qb kN kE kX kR => ?_))) | (with_reducible (refine z08 ?_)) | (with_reducible (refine z09 ?_)) | (with_reducible (refine z0m ?_)) | (with_reducible (refine z0a ?_)) | (with_reducible (refine z0b ?_)) | (with_reducible (show W _ _ _ (.cond _ _ _) _ _); refine z07 rfl ?_) | (with_reducible (refine hN _ ?_); (try clear hN hE hR Qs)) | (with_reducible (refine hE _ _ ?_); (try clear hN hE hR Qs)) | (with_reducible (refine hR _ ?_); (try clear hN hE hR Qs)) | (with_reducible (refine kN _ ?_); (try clear kN kE kX kR Qb)) | (with_reducible (refine kE _ ?_); (try clear kN kE kX kR Qb)) | (with_reducible (refine kX _ _ rfl ?_); (try clear kN kE kX kR Qb)) | (with_reducible (refine kR _ ?_); (try clear kN kE kX kR Qb)) | (refine z0i f1 ?_) | (refine stpQ ?_))
   refine hQ1 _ _ ?_
   clear hQ1 Q1
   rw [List.take_length]
   repeat ((try conv => whnf); first | (with_reducible (refine z0n (fun Qs hN hE hR => ?_))) | (with_reducible (refine z0l ?_)) | (with_reducible (refine z05 (fun Qb kN kE kX kR => ?_))) | (with_reducible (refine z08 ?_)) | (with_reducible (refine z09 ?_)) | (with_reducible (refine z0m ?_)) | (with_reducible (refine z0a ?_)) | (with_reducible (refine z0b ?_)) | (with_reducible (show W _ _ _ (.cond _ _ _) _ _); refine z07 rfl ?_) | (with_reducible (refine hN _ ?_); (try clear hN hE hR Qs)) | (with_reducible (refine hE _ _ ?_); (try clear hN hE hR Qs)) | (with_reducible (refine hR _ ?_); (try clear hN hE hR Qs)) | (with_reducible (refine kN _ ?_); (try clear kN kE kX kR Qb)) | (with_reducible (refine kE _ ?_); (try clear kN kE kX kR Qb)) | (with_reducible (refine kX _ _ rfl ?_); (try clear kN kE kX kR Qb)) | (with_reducible (refine kR _ ?_); (try clear kN kE kX kR Qb)) | (refine stpQ ?_))
   (refine z00 (by rfl) ?_ ?_ (by rfl)) <;> (repeat' (first | (exact eqA) | (refine shE ?_) | (refine And.intro ?_ ?_)))
theorem z8k (es : List (List T)) (hw : WfLf es) (k : Nat) (hk : 0 < k) (hb : k + cnG szLf es ≤ 1000000000000000000) (hl : (es.length : Int) ≤ 1000000000) :
 CT Tryz.prog 136 [.deep 2 es []] [.ref 1, .int .i64 (k : Int)] (.int .i64 ((k + cnG szLf es : Nat) : Int)) [.deep 2 (mkG elLf szLf k es) []] := by
 refine z01 z03 2 rfl Tryz.func136 rfl rfl rfl ?_
 conv => arg 6; whnf
 repeat ((try conv => whnf); first | (with_reducible (refine z0n (fun Qs hN hE hR => ?_))) | (with_reducible (refine z0l ?_)) | (with_reducible (refine z05 (fun Qb kN kE kX kR => ?_))) | (with_reducible (refine z08 ?_)) | (with_reducible (refine z09 ?_)) | (with_reducible (refine z0m ?_)) | (with_reducible (refine z0a ?_)) | (with_reducible (refine z0b ?_)) | (with_reducible (show W _ _ _ (.cond _ _ _) _ _); refine z07 rfl ?_) | (with_reducible (refine hN _ ?_); (try clear hN hE hR Qs)) | (with_reducible (refine hE _ _ ?_); (try clear hN hE hR Qs)) | (with_reducible (refine hR _ ?_); (try clear hN hE hR Qs)) | (with_reducible (refine kN _ ?_); (try clear kN kE kX kR Qb)) | (with_reducible (refine kE _ ?_); (try clear kN kE kX kR Qb)) | (with_reducible (refine kX _ _ rfl ?_); (try clear kN kE kX kR Qb)) | (with_reducible (refine kR _ ?_); (try clear kN kE kX kR Qb)) | (refine stpQ ?_))
 refine z0A 0 ⟨[(1, .int .i64 ((k + cnG szLf es : Nat) : Int))], [(1, some (.deep 2 (mkG elLf szLf k es) []))], 2⟩ Nat (fun i => ⟨[(0, .ref 1), (1, .int .i64 ((k + cnG szLf (es.take i) : Nat) : Int)), (5, .int .i64 (i : Int))], [(1, some (.deep 2 (rwG elLf szLf k es i) []))], 2⟩) (fun i => i ≤ es.length) (fun i => es.length - i) 0 (Nat.zero_le _) ?_ ?_ ?_
 ·(refine z02 (by rfl) ?_ ?_) <;> (repeat' (first | (exact eqA) | (refine shE ?_) | (refine And.intro ?_ ?_))) <;> first | rfl | decide
 ·intro i hi
  have hlen := z50 elLf szLf (k := k) hi
  by_cases hlt : i < es.length
  ·have f1 : (i : Int) < ((rwG elLf szLf k es i).length : Int) := by omega
   have i1 : i < (rwG elLf szLf k es i).length := by omega
   have g := z7t elLf szLf (k := k) hlt
   have hnx : (rwG elLf szLf k es i).set i [.str (z0k ((k + cnG szLf (es.take i)))), .str (z0k ((k + cnG szLf (es.take i)) + 1))] = rwG elLf szLf k es (i + 1) := z3y elLf szLf (k := k) hlt
   have hcn : cnG szLf (es.take (i + 1)) = cnG szLf (es.take i) + 2 := z1A szLf hlt
   have hcl := z2P szLf (es := es) (i := i + 1)
   have e10 : k + cnG szLf (es.take (i + 1)) = (k + cnG szLf (es.take i)) + 1 + 1 := by omega
   obtain ⟨a0, a1, he⟩ := hw _ (List.getElem_mem hlt)
   rw [he] at g
   have hnp : 0 < k + cnG szLf (es.take i) := by omega
   have hnb : k + cnG szLf (es.take i) + 2 ≤ 1000000000000000000 := by omega
   generalize rwG elLf szLf k es i = R at *
   generalize k + cnG szLf (es.take i) = n at *
   clear hb hk hcn hcl he hw
   have m0 := z0O (n) (by omega) (by omega)
   generalize z0k (n) = t0 at *
   have m1 := z0O (n + 1) (by omega) (by omega)
   generalize z0k (n + 1) = t1 at *
   have h1 : ∀ X, i < (R.set i X).length := fun X => by rw [List.length_set]; exact i1
   have gs : ∀ X, (R.set i X)[i]? = some X := fun X => by rw [List.getElem?_set_self i1]
   repeat ((try conv => whnf); first | (with_reducible (refine z0n (fun Qs hN hE hR => ?_))) | (with_reducible (refine z0l ?_)) | (with_reducible (refine z05 (fun Qb kN kE kX kR => ?_))) | (with_reducible (refine z08 ?_)) | (with_reducible (refine z09 ?_)) | (with_reducible (refine z0m ?_)) | (with_reducible (refine z0a ?_)) | (with_reducible (refine z0b ?_)) | (with_reducible (show W _ _ _ (.cond _ _ _) _ _); refine z07 rfl ?_) | (with_reducible (refine hN _ ?_); (try clear hN hE hR Qs)) | (with_reducible (refine hE _ _ ?_); (try clear hN hE hR Qs)) | (with_reducible (refine hR _ ?_); (try clear hN hE hR Qs)) | (with_reducible (refine kN _ ?_); (try clear kN kE kX kR Qb)) | (with_reducible (refine kE _ ?_); (try clear kN kE kX kR Qb)) | (with_reducible (refine kX _ _ rfl ?_); (try clear kN kE kX kR Qb)) | (with_reducible (refine kR _ ?_); (try clear kN kE kX kR Qb)) | (refine z0t f1 ?_) | (refine And.intro i1 ?_) | (refine And.intro (h1 _) ?_) | (refine Exists.intro _ (And.intro g ?_)) | (refine Exists.intro _ (And.intro (gs _) ?_)) | (refine ccA ([]) (m0) ?_) | (refine ccA ([]) (m1) ?_) | (refine And.intro (by kernel_rfl) ?_) | (rw [List.set_set]) | (refine stpQ ?_))
   refine ⟨i + 1, hlt, by omega, ?_⟩
   rw [e10]
   (refine z02 (by rfl) ?_ ?_) <;> (repeat' (first | (exact eqA) | (refine shE ?_) | (refine And.intro ?_ ?_))) <;> first | rfl | exact hnx | (rw [List.set_set]; exact hnx)
  ·have hie : i = es.length := by omega
   subst hie
   have f1 : ¬ (es.length : Int) < ((rwG elLf szLf k es es.length).length : Int) := by omega
   repeat ((try conv => whnf); first | (with_reducible (refine z0n (fun Qs hN hE hR => ?_))) | (with_reducible (refine z0l ?_)) | (with_reducible (refine z05 (fun Qb kN kE kX kR => ?_))) | (with_reducible (refine z08 ?_)) | (with_reducible (refine z09 ?_)) | (with_reducible (refine z0m ?_)) | (with_reducible (refine z0a ?_)) | (with_reducible (refine z0b ?_)) | (with_reducible (show W _ _ _ (.cond _ _ _) _ _); refine z07 rfl ?_) | (with_reducible (refine hN _ ?_); (try clear hN hE hR Qs)) | (with_reducible (refine hE _ _ ?_); (try clear hN hE hR Qs)) | (with_reducible (refine hR _ ?_); (try clear hN hE hR Qs)) | (with_reducible (refine kN _ ?_); (try clear kN kE kX kR Qb)) | (with_reducible (refine kE _ ?_); (try clear kN kE kX kR Qb)) | (with_reducible (refine kX _ _ rfl ?_); (try clear kN kE kX kR Qb)) | (with_reducible (refine kR _ ?_); (try clear kN kE kX kR Qb)) | (refine z0i f1 ?_) | (refine stpQ ?_))
   rw [List.take_length]
   (refine z02 (by rfl) ?_ ?_) <;> (repeat' (first | (exact eqA) | (refine shE ?_) | (refine And.intro ?_ ?_))) <;> first | rfl | exact z3O _ _ _ _
 ·repeat ((try conv => whnf); first | (with_reducible (refine z0n (fun Qs hN hE hR => ?_))) | (with_reducible (refine z0l ?_)) | (with_reducible (refine z05 (fun Qb kN kE kX kR => ?_))) | (with_reducible (refine z08 ?_)) | (with_reducible (refine z09 ?_)) | (with_reducible (refine z0m ?_)) | (with_reducible (refine z0a ?_)) | (with_reducible (refine z0b ?_)) | (with_reducible (show W _ _ _ (.cond _ _ _) _ _); refine z07 rfl ?_) | (with_reducible (refine hN _ ?_); (try clear hN hE hR Qs)) | (with_reducible (refine hE _ _ ?_); (try clear hN hE hR Qs)) | (with_reducible (refine hR _ ?_); (try clear hN hE hR Qs)) | (with_reducible (refine kN _ ?_); (try clear kN kE kX kR Qb)) | (with_reducible (refine kE _ ?_); (try clear kN kE kX kR Qb)) | (with_reducible (refine kX _ _ rfl ?_); (try clear kN kE kX kR Qb)) | (with_reducible (refine kR _ ?_); (try clear kN kE kX kR Qb)) | (refine stpQ ?_))
  (refine z00 (by rfl) ?_ ?_ (by rfl)) <;> (repeat' (first | (exact eqA) | (refine shE ?_) | (refine And.intro ?_ ?_)))
theorem z8l (es : List (List T)) (k : Nat) (hk : 0 < k) (hb : k + cnG szLf es ≤ 1000000000000000000) (hl : (es.length : Int) ≤ 1000000000) :
 CT Tryz.prog 138 [.deep 2 (mkG elLf szLf k es) []] [.ref 1, .int .i64 (k : Int)] (.int .i64 ((k + cnG szLf es : Nat) : Int)) [.deep 2 (mkG elLf szLf k es) []] := by
 have hlen := z1U elLf szLf k es
 refine z01 z03 2 rfl Tryz.func138 rfl rfl rfl ?_
 conv => arg 6; whnf
 repeat ((try conv => whnf); first | (with_reducible (refine z0n (fun Qs hN hE hR => ?_))) | (with_reducible (refine z0l ?_)) | (with_reducible (refine z05 (fun Qb kN kE kX kR => ?_))) | (with_reducible (refine z08 ?_)) | (with_reducible (refine z09 ?_)) | (with_reducible (refine z0m ?_)) | (with_reducible (refine z0a ?_)) | (with_reducible (refine z0b ?_)) | (with_reducible (show W _ _ _ (.cond _ _ _) _ _); refine z07 rfl ?_) | (with_reducible (refine hN _ ?_); (try clear hN hE hR Qs)) | (with_reducible (refine hE _ _ ?_); (try clear hN hE hR Qs)) | (with_reducible (refine hR _ ?_); (try clear hN hE hR Qs)) | (with_reducible (refine kN _ ?_); (try clear kN kE kX kR Qb)) | (with_reducible (refine kE _ ?_); (try clear kN kE kX kR Qb)) | (with_reducible (refine kX _ _ rfl ?_); (try clear kN kE kX kR Qb)) | (with_reducible (refine kR _ ?_); (try clear kN kE kX kR Qb)) | (refine stpQ ?_))
 refine z2B Nat (fun i => ⟨[(0, .ref 1), (1, .int .i64 ((k + cnG szLf (es.take i) : Nat) : Int)), (5, .int .i64 (i : Int))], [(1, some (.deep 2 (mkG elLf szLf k es) []))], 2⟩) (fun i => i ≤ es.length) (fun i => es.length - i) 0 (Nat.zero_le _) ?_ ?_
 ·(refine z02 (by rfl) ?_ ?_) <;> (repeat' (first | (exact eqA) | (refine shE ?_) | (refine And.intro ?_ ?_))) <;> first | rfl | decide
 ·intro Q1 hQ1 i hi
  by_cases hlt : i < es.length
  ·have f1 : (i : Int) < ((mkG elLf szLf k es).length : Int) := by omega
   have i1 : i < (mkG elLf szLf k es).length := by omega
   have g : (mkG elLf szLf k es)[i]? = some [.str (z0k ((k + cnG szLf (es.take i)))), .str (z0k ((k + cnG szLf (es.take i)) + 1))] := z4Z elLf szLf k hlt
   have hcn : cnG szLf (es.take (i + 1)) = cnG szLf (es.take i) + 2 := z1A szLf hlt
   have hcl := z2P szLf (es := es) (i := i + 1)
   have e10 : k + cnG szLf (es.take (i + 1)) = (k + cnG szLf (es.take i)) + 1 + 1 := by omega
   have hnp : 0 < k + cnG szLf (es.take i) := by omega
   have hnb : k + cnG szLf (es.take i) + 2 ≤ 1000000000000000000 := by omega
   generalize mkG elLf szLf k es = R at *
   generalize k + cnG szLf (es.take i) = n at *
   clear hb hk hcn hcl
   have m0 := z0O (n) (by omega) (by omega)
   generalize z0k (n) = t0 at *
   have r0 : t0 = t0 := rfl
   have m1 := z0O (n + 1) (by omega) (by omega)
   generalize z0k (n + 1) = t1 at *
   have r1 : t1 = t1 := rfl
   repeat ((try conv => whnf); first | (with_reducible (refine z0n (fun Qs hN hE hR => ?_))) | (with_reducible (refine z0l ?_)) | (with_reducible (refine z05 (fun Qb kN kE kX kR => ?_))) | (with_reducible (refine z08 ?_)) | (with_reducible (refine z09 ?_)) | (with_reducible (refine z0m ?_)) | (with_reducible (refine z0a ?_)) | (with_reducible (refine z0b ?_)) | (with_reducible (show W _ _ _ (.cond _ _ _) _ _); refine z07 rfl ?_) | (with_reducible (refine hN _ ?_); (try clear hN hE hR Qs)) | (with_reducible (refine hE _ _ ?_); (try clear hN hE hR Qs)) | (with_reducible (refine hR _ ?_); (try clear hN hE hR Qs)) | (with_reducible (refine kN _ ?_); (try clear kN kE kX kR Qb)) | (with_reducible (refine kE _ ?_); (try clear kN kE kX kR Qb)) | (with_reducible (refine kX _ _ rfl ?_); (try clear kN kE kX kR Qb)) | (with_reducible (refine kR _ ?_); (try clear kN kE kX kR Qb)) | (refine z0t f1 ?_) | (refine And.intro i1 ?_) | (refine Exists.intro _ (And.intro g ?_)) | (refine ccA ([]) (m0) ?_) | (refine ccA ([]) (m1) ?_) | (refine z1v r0 ?_) | (refine z1v r1 ?_) | (refine And.intro (by kernel_rfl) ?_) | (refine stpQ ?_))
   refine ⟨i + 1, hlt, by omega, ?_⟩
   rw [e10]
   (refine z02 (by rfl) ?_ ?_) <;> (repeat' (first | (exact eqA) | (refine shE ?_) | (refine And.intro ?_ ?_)))
  ·have hie : i = es.length := by omega
   subst hie
   have f1 : ¬ (es.length : Int) < ((mkG elLf szLf k es).length : Int) := by omega
   repeat ((try conv => whnf); first | (with_reducible (refine z0n (fun Qs hN hE hR => ?_))) | (with_reducible (refine z0l ?_)) | (with_reducible (refine z05 (fun Qb kN kE kX kR => ?_))) | (with_reducible (refine z08 ?_)) | (with_reducible (refine z09 ?_)) | (with_reducible (refine z0m ?_)) | (with_reducible (refine z0a ?_)) | (with_reducible (refine z0b ?_)) | (with_reducible (show W _ _ _ (.cond _ _ _) _ _); refine z07 rfl ?_) | (with_reducible (refine hN _ ?_); (try clear hN hE hR Qs)) | (with_reducible (refine hE _ _ ?_); (try clear hN hE hR Qs)) | (with_reducible (refine hR _ ?_); (try clear hN hE hR Qs)) | (with_reducible (refine kN _ ?_); (try clear kN kE kX kR Qb)) | (with_reducible (refine kE _ ?_); (try clear kN kE kX kR Qb)) | (with_reducible (refine kX _ _ rfl ?_); (try clear kN kE kX kR Qb)) | (with_reducible (refine kR _ ?_); (try clear kN kE kX kR Qb)) | (refine z0i f1 ?_) | (refine stpQ ?_))
   refine hQ1 _ _ ?_
   clear hQ1 Q1
   rw [List.take_length]
   repeat ((try conv => whnf); first | (with_reducible (refine z0n (fun Qs hN hE hR => ?_))) | (with_reducible (refine z0l ?_)) | (with_reducible (refine z05 (fun Qb kN kE kX kR => ?_))) | (with_reducible (refine z08 ?_)) | (with_reducible (refine z09 ?_)) | (with_reducible (refine z0m ?_)) | (with_reducible (refine z0a ?_)) | (with_reducible (refine z0b ?_)) | (with_reducible (show W _ _ _ (.cond _ _ _) _ _); refine z07 rfl ?_) | (with_reducible (refine hN _ ?_); (try clear hN hE hR Qs)) | (with_reducible (refine hE _ _ ?_); (try clear hN hE hR Qs)) | (with_reducible (refine hR _ ?_); (try clear hN hE hR Qs)) | (with_reducible (refine kN _ ?_); (try clear kN kE kX kR Qb)) | (with_reducible (refine kE _ ?_); (try clear kN kE kX kR Qb)) | (with_reducible (refine kX _ _ rfl ?_); (try clear kN kE kX kR Qb)) | (with_reducible (refine kR _ ?_); (try clear kN kE kX kR Qb)) | (refine stpQ ?_))
   (refine z00 (by rfl) ?_ ?_ (by rfl)) <;> (repeat' (first | (exact eqA) | (refine shE ?_) | (refine And.intro ?_ ?_)))
theorem z6r (es : List (List T)) (hw : WfCh es) (k : Nat) (hk : 0 < k) (hb : k + cnG szCh es ≤ 1000000000000000000) (hl : (es.length : Int) ≤ 1000000000) :
 CT Tryz.prog 56 [.deep 3 es []] [.ref 1, .int .i64 (k : Int)] (.int .i64 ((k + cnG szCh es : Nat) : Int)) [.deep 3 (mkG elCh szCh k es) []] := by
 refine z01 z03 2 rfl Tryz.func56 rfl rfl rfl ?_
 conv => arg 6; whnf
 repeat ((try conv => whnf); first | (with_reducible (refine z0n (fun Qs hN hE hR => ?_))) | (with_reducible (refine z0l ?_)) | (with_reducible (refine z05 (fun Qb kN kE kX kR => ?_))) | (with_reducible (refine z08 ?_)) | (with_reducible (refine z09 ?_)) | (with_reducible (refine z0m ?_)) | (with_reducible (refine z0a ?_)) | (with_reducible (refine z0b ?_)) | (with_reducible (show W _ _ _ (.cond _ _ _) _ _); refine z07 rfl ?_) | (with_reducible (refine hN _ ?_); (try clear hN hE hR Qs)) | (with_reducible (refine hE _ _ ?_); (try clear hN hE hR Qs)) | (with_reducible (refine hR _ ?_); (try clear hN hE hR Qs)) | (with_reducible (refine kN _ ?_); (try clear kN kE kX kR Qb)) | (with_reducible (refine kE _ ?_); (try clear kN kE kX kR Qb)) | (with_reducible (refine kX _ _ rfl ?_); (try clear kN kE kX kR Qb)) | (with_reducible (refine kR _ ?_); (try clear kN kE kX kR Qb)) | (refine stpQ ?_))
 refine z0A 0 ⟨[(1, .int .i64 ((k + cnG szCh es : Nat) : Int))], [(1, some (.deep 3 (mkG elCh szCh k es) []))], 2⟩ Nat (fun i => ⟨[(0, .ref 1), (1, .int .i64 ((k + cnG szCh (es.take i) : Nat) : Int)), (5, .int .i64 (i : Int))], [(1, some (.deep 3 (rwG elCh szCh k es i) []))], 2⟩) (fun i => i ≤ es.length) (fun i => es.length - i) 0 (Nat.zero_le _) ?_ ?_ ?_
 ·(refine z02 (by rfl) ?_ ?_) <;> (repeat' (first | (exact eqA) | (refine shE ?_) | (refine And.intro ?_ ?_))) <;> first | rfl | decide
 ·intro i hi
  have hlen := z50 elCh szCh (k := k) hi
  by_cases hlt : i < es.length
  ·have f1 : (i : Int) < ((rwG elCh szCh k es i).length : Int) := by omega
   have i1 : i < (rwG elCh szCh k es i).length := by omega
   have g := z7t elCh szCh (k := k) hlt
   have hnx : (rwG elCh szCh k es i).set i [.int .i64 (((k + cnG szCh (es.take i)) : Nat) : Int), .str (z0k ((k + cnG szCh (es.take i)) + 1)), .str (z0k ((k + cnG szCh (es.take i)) + 1 + 1))] = rwG elCh szCh k es (i + 1) := z3y elCh szCh (k := k) hlt
   have hcn : cnG szCh (es.take (i + 1)) = cnG szCh (es.take i) + 3 := z1A szCh hlt
   have hcl := z2P szCh (es := es) (i := i + 1)
   have e10 : k + cnG szCh (es.take (i + 1)) = (k + cnG szCh (es.take i)) + 1 + 1 + 1 := by omega
   obtain ⟨a0, a1, a2, he⟩ := hw _ (List.getElem_mem hlt)
   rw [he] at g
   have hnp : 0 < k + cnG szCh (es.take i) := by omega
   have hnb : k + cnG szCh (es.take i) + 3 ≤ 1000000000000000000 := by omega
   generalize rwG elCh szCh k es i = R at *
   generalize k + cnG szCh (es.take i) = n at *
   clear hb hk hcn hcl he hw
   have m1 := z0O (n + 1) (by omega) (by omega)
   generalize z0k (n + 1) = t1 at *
   have m2 := z0O (n + 1 + 1) (by omega) (by omega)
   generalize z0k (n + 1 + 1) = t2 at *
   have h1 : ∀ X, i < (R.set i X).length := fun X => by rw [List.length_set]; exact i1
   have gs : ∀ X, (R.set i X)[i]? = some X := fun X => by rw [List.getElem?_set_self i1]
   repeat ((try conv => whnf); first | (with_reducible (refine z0n (fun Qs hN hE hR => ?_))) | (with_reducible (refine z0l ?_)) | (with_reducible (refine z05 (fun Qb kN kE kX kR => ?_))) | (with_reducible (refine z08 ?_)) | (with_reducible (refine z09 ?_)) | (with_reducible (refine z0m ?_)) | (with_reducible (refine z0a ?_)) | (with_reducible (refine z0b ?_)) | (with_reducible (show W _ _ _ (.cond _ _ _) _ _); refine z07 rfl ?_) | (with_reducible (refine hN _ ?_); (try clear hN hE hR Qs)) | (with_reducible (refine hE _ _ ?_); (try clear hN hE hR Qs)) | (with_reducible (refine hR _ ?_); (try clear hN hE hR Qs)) | (with_reducible (refine kN _ ?_); (try clear kN kE kX kR Qb)) | (with_reducible (refine kE _ ?_); (try clear kN kE kX kR Qb)) | (with_reducible (refine kX _ _ rfl ?_); (try clear kN kE kX kR Qb)) | (with_reducible (refine kR _ ?_); (try clear kN kE kX kR Qb)) | (refine z0t f1 ?_) | (refine And.intro i1 ?_) | (refine And.intro (h1 _) ?_) | (refine Exists.intro _ (And.intro g ?_)) | (refine Exists.intro _ (And.intro (gs _) ?_)) | (refine ccA ([]) (m1) ?_) | (refine ccA ([]) (m2) ?_) | (refine And.intro (by kernel_rfl) ?_) | (rw [List.set_set]) | (refine stpQ ?_))
   refine ⟨i + 1, hlt, by omega, ?_⟩
   rw [e10]
   (refine z02 (by rfl) ?_ ?_) <;> (repeat' (first | (exact eqA) | (refine shE ?_) | (refine And.intro ?_ ?_))) <;> first | rfl | exact hnx | (rw [List.set_set]; exact hnx)
  ·have hie : i = es.length := by omega
   subst hie
   have f1 : ¬ (es.length : Int) < ((rwG elCh szCh k es es.length).length : Int) := by omega
   repeat ((try conv => whnf); first | (with_reducible (refine z0n (fun Qs hN hE hR => ?_))) | (with_reducible (refine z0l ?_)) | (with_reducible (refine z05 (fun Qb kN kE kX kR => ?_))) | (with_reducible (refine z08 ?_)) | (with_reducible (refine z09 ?_)) | (with_reducible (refine z0m ?_)) | (with_reducible (refine z0a ?_)) | (with_reducible (refine z0b ?_)) | (with_reducible (show W _ _ _ (.cond _ _ _) _ _); refine z07 rfl ?_) | (with_reducible (refine hN _ ?_); (try clear hN hE hR Qs)) | (with_reducible (refine hE _ _ ?_); (try clear hN hE hR Qs)) | (with_reducible (refine hR _ ?_); (try clear hN hE hR Qs)) | (with_reducible (refine kN _ ?_); (try clear kN kE kX kR Qb)) | (with_reducible (refine kE _ ?_); (try clear kN kE kX kR Qb)) | (with_reducible (refine kX _ _ rfl ?_); (try clear kN kE kX kR Qb)) | (with_reducible (refine kR _ ?_); (try clear kN kE kX kR Qb)) | (refine z0i f1 ?_) | (refine stpQ ?_))
   rw [List.take_length]
   (refine z02 (by rfl) ?_ ?_) <;> (repeat' (first | (exact eqA) | (refine shE ?_) | (refine And.intro ?_ ?_))) <;> first | rfl | exact z3O _ _ _ _
 ·repeat ((try conv => whnf); first | (with_reducible (refine z0n (fun Qs hN hE hR => ?_))) | (with_reducible (refine z0l ?_)) | (with_reducible (refine z05 (fun Qb kN kE kX kR => ?_))) | (with_reducible (refine z08 ?_)) | (with_reducible (refine z09 ?_)) | (with_reducible (refine z0m ?_)) | (with_reducible (refine z0a ?_)) | (with_reducible (refine z0b ?_)) | (with_reducible (show W _ _ _ (.cond _ _ _) _ _); refine z07 rfl ?_) | (with_reducible (refine hN _ ?_); (try clear hN hE hR Qs)) | (with_reducible (refine hE _ _ ?_); (try clear hN hE hR Qs)) | (with_reducible (refine hR _ ?_); (try clear hN hE hR Qs)) | (with_reducible (refine kN _ ?_); (try clear kN kE kX kR Qb)) | (with_reducible (refine kE _ ?_); (try clear kN kE kX kR Qb)) | (with_reducible (refine kX _ _ rfl ?_); (try clear kN kE kX kR Qb)) | (with_reducible (refine kR _ ?_); (try clear kN kE kX kR Qb)) | (refine stpQ ?_))
  (refine z00 (by rfl) ?_ ?_ (by rfl)) <;> (repeat' (first | (exact eqA) | (refine shE ?_) | (refine And.intro ?_ ?_)))
theorem z6s (es : List (List T)) (k : Nat) (hk : 0 < k) (hb : k + cnG szCh es ≤ 1000000000000000000) (hl : (es.length : Int) ≤ 1000000000) :
 CT Tryz.prog 60 [.deep 3 (mkG elCh szCh k es) []] [.ref 1, .int .i64 (k : Int)] (.int .i64 ((k + cnG szCh es : Nat) : Int)) [.deep 3 (mkG elCh szCh k es) []] := by
 have hlen := z1U elCh szCh k es
 refine z01 z03 2 rfl Tryz.func60 rfl rfl rfl ?_
 conv => arg 6; whnf
 repeat ((try conv => whnf); first | (with_reducible (refine z0n (fun Qs hN hE hR => ?_))) | (with_reducible (refine z0l ?_)) | (with_reducible (refine z05 (fun Qb kN kE kX kR => ?_))) | (with_reducible (refine z08 ?_)) | (with_reducible (refine z09 ?_)) | (with_reducible (refine z0m ?_)) | (with_reducible (refine z0a ?_)) | (with_reducible (refine z0b ?_)) | (with_reducible (show W _ _ _ (.cond _ _ _) _ _); refine z07 rfl ?_) | (with_reducible (refine hN _ ?_); (try clear hN hE hR Qs)) | (with_reducible (refine hE _ _ ?_); (try clear hN hE hR Qs)) | (with_reducible (refine hR _ ?_); (try clear hN hE hR Qs)) | (with_reducible (refine kN _ ?_); (try clear kN kE kX kR Qb)) | (with_reducible (refine kE _ ?_); (try clear kN kE kX kR Qb)) | (with_reducible (refine kX _ _ rfl ?_); (try clear kN kE kX kR Qb)) | (with_reducible (refine kR _ ?_); (try clear kN kE kX kR Qb)) | (refine stpQ ?_))
 refine z2B Nat (fun i => ⟨[(0, .ref 1), (1, .int .i64 ((k + cnG szCh (es.take i) : Nat) : Int)), (5, .int .i64 (i : Int))], [(1, some (.deep 3 (mkG elCh szCh k es) []))], 2⟩) (fun i => i ≤ es.length) (fun i => es.length - i) 0 (Nat.zero_le _) ?_ ?_
 ·(refine z02 (by rfl) ?_ ?_) <;> (repeat' (first | (exact eqA) | (refine shE ?_) | (refine And.intro ?_ ?_))) <;> first | rfl | decide
 ·intro Q1 hQ1 i hi
  by_cases hlt : i < es.length
  ·have f1 : (i : Int) < ((mkG elCh szCh k es).length : Int) := by omega
   have i1 : i < (mkG elCh szCh k es).length := by omega
   have g : (mkG elCh szCh k es)[i]? = some [.int .i64 (((k + cnG szCh (es.take i)) : Nat) : Int), .str (z0k ((k + cnG szCh (es.take i)) + 1)), .str (z0k ((k + cnG szCh (es.take i)) + 1 + 1))] := z4Z elCh szCh k hlt
   have hcn : cnG szCh (es.take (i + 1)) = cnG szCh (es.take i) + 3 := z1A szCh hlt
   have hcl := z2P szCh (es := es) (i := i + 1)
   have e10 : k + cnG szCh (es.take (i + 1)) = (k + cnG szCh (es.take i)) + 1 + 1 + 1 := by omega
   have hnp : 0 < k + cnG szCh (es.take i) := by omega
   have hnb : k + cnG szCh (es.take i) + 3 ≤ 1000000000000000000 := by omega
   generalize mkG elCh szCh k es = R at *
   generalize k + cnG szCh (es.take i) = n at *
   clear hb hk hcn hcl
   have m1 := z0O (n + 1) (by omega) (by omega)
   generalize z0k (n + 1) = t1 at *
   have r1 : t1 = t1 := rfl
   have m2 := z0O (n + 1 + 1) (by omega) (by omega)
   generalize z0k (n + 1 + 1) = t2 at *
   have r2 : t2 = t2 := rfl
   have q0 : ((n : Nat) : Int) = ((n : Nat) : Int) := rfl
   repeat ((try conv => whnf); first | (with_reducible (refine z0n (fun Qs hN hE hR => ?_))) | (with_reducible (refine z0l ?_)) | (with_reducible (refine z05 (fun Qb kN kE kX kR => ?_))) | (with_reducible (refine z08 ?_)) | (with_reducible (refine z09 ?_)) | (with_reducible (refine z0m ?_)) | (with_reducible (refine z0a ?_)) | (with_reducible (refine z0b ?_)) | (with_reducible (show W _ _ _ (.cond _ _ _) _ _); refine z07 rfl ?_) | (with_reducible (refine hN _ ?_); (try clear hN hE hR Qs)) | (with_reducible (refine hE _ _ ?_); (try clear hN hE hR Qs)) | (with_reducible (refine hR _ ?_); (try clear hN hE hR Qs)) | (with_reducible (refine kN _ ?_); (try clear kN kE kX kR Qb)) | (with_reducible (refine kE _ ?_); (try clear kN kE kX kR Qb)) | (with_reducible (refine kX _ _ rfl ?_); (try clear kN kE kX kR Qb)) | (with_reducible (refine kR _ ?_); (try clear kN kE kX kR Qb)) | (refine z0t f1 ?_) | (refine And.intro i1 ?_) | (refine Exists.intro _ (And.intro g ?_)) | (refine ccA ([]) (m1) ?_) | (refine ccA ([]) (m2) ?_) | (refine z1v r1 ?_) | (refine z1v r2 ?_) | (refine z1v q0 ?_) | (refine And.intro (by kernel_rfl) ?_) | (refine stpQ ?_))
   refine ⟨i + 1, hlt, by omega, ?_⟩
   rw [e10]
   (refine z02 (by rfl) ?_ ?_) <;> (repeat' (first | (exact eqA) | (refine shE ?_) | (refine And.intro ?_ ?_)))
  ·have hie : i = es.length := by omega
   subst hie
   have f1 : ¬ (es.length : Int) < ((mkG elCh szCh k es).length : Int) := by omega
   repeat ((try conv => whnf); first | (with_reducible (refine z0n (fun Qs hN hE hR => ?_))) | (with_reducible (refine z0l ?_)) | (with_reducible (refine z05 (fun Qb kN kE kX kR => ?_))) | (with_reducible (refine z08 ?_)) | (with_reducible (refine z09 ?_)) | (with_reducible (refine z0m ?_)) | (with_reducible (refine z0a ?_)) | (with_reducible (refine z0b ?_)) | (with_reducible (show W _ _ _ (.cond _ _ _) _ _); refine z07 rfl ?_) | (with_reducible (refine hN _ ?_); (try clear hN hE hR Qs)) | (with_reducible (refine hE _ _ ?_); (try clear hN hE hR Qs)) | (with_reducible (refine hR _ ?_); (try clear hN hE hR Qs)) | (with_reducible (refine kN _ ?_); (try clear kN kE kX kR Qb)) | (with_reducible (refine kE _ ?_); (try clear kN kE kX kR Qb)) | (with_reducible (refine kX _ _ rfl ?_); (try clear kN kE kX kR Qb)) | (with_reducible (refine kR _ ?_); (try clear kN kE kX kR Qb)) | (refine z0i f1 ?_) | (refine stpQ ?_))
   refine hQ1 _ _ ?_
   clear hQ1 Q1
   rw [List.take_length]
   repeat ((try conv => whnf); first | (with_reducible (refine z0n (fun Qs hN hE hR => ?_))) | (with_reducible (refine z0l ?_)) | (with_reducible (refine z05 (fun Qb kN kE kX kR => ?_))) | (with_reducible (refine z08 ?_)) | (with_reducible (refine z09 ?_)) | (with_reducible (refine z0m ?_)) | (with_reducible (refine z0a ?_)) | (with_reducible (refine z0b ?_)) | (with_reducible (show W _ _ _ (.cond _ _ _) _ _); refine z07 rfl ?_) | (with_reducible (refine hN _ ?_); (try clear hN hE hR Qs)) | (with_reducible (refine hE _ _ ?_); (try clear hN hE hR Qs)) | (with_reducible (refine hR _ ?_); (try clear hN hE hR Qs)) | (with_reducible (refine kN _ ?_); (try clear kN kE kX kR Qb)) | (with_reducible (refine kE _ ?_); (try clear kN kE kX kR Qb)) | (with_reducible (refine kX _ _ rfl ?_); (try clear kN kE kX kR Qb)) | (with_reducible (refine kR _ ?_); (try clear kN kE kX kR Qb)) | (refine stpQ ?_))
   (refine z00 (by rfl) ?_ ?_ (by rfl)) <;> (repeat' (first | (exact eqA) | (refine shE ?_) | (refine And.intro ?_ ?_)))
end
end Go.Proofs.YtbcgmjdfnjmhoaaGreatDoor
namespace Go.Proofs.YtbcgmjdfnjmhoaaGreatDoor
set_option maxRecDepth 100000
set_option maxHeartbeats 4000000
set_option linter.unusedVariables false
set_option linter.unusedSimpArgs false
set_option linter.unusedSectionVars false
open Go.RowKit Pl
def z1p (k : Nat) : List T → List T
 | [.own _ o0] => [.own 2 (mkG elLf szLf (k) o0)]
 | e => e
def z0j : List T → Nat
 | [.own _ o0] => 0 + cnG szLf o0
 | _ => 0
def zc8 (es : List (List T)) : Prop := ∀ e ∈ es, ∃ o0 : List (List T), e = [.own 2 o0] ∧ WfLf o0 ∧ (o0.length : Int) ≤ 1000000000
section
attribute [local irreducible] z0F z0I z0T AnsP LeP W
theorem z7v (es : List (List T)) (hw : zc8 es) (k : Nat) (hk : 0 < k) (hb : k + cnG z0j es ≤ 1000000000000000000) (hl : (es.length : Int) ≤ 1000000000) :
 CT Tryz.prog 54 [.deep 1 (es) []] [.ref 1, .int .i64 (k : Int)] (.int .i64 ((k + cnG z0j es : Nat) : Int)) [.deep 1 (mkG z1p z0j k es) []] := by
 refine z01 z03 2 rfl Tryz.func54 rfl rfl rfl ?_
 conv => arg 6; whnf
 repeat ((try conv => whnf); first | (with_reducible (refine z0n (fun Qs hN hE hR => ?_))) | (with_reducible (refine z0l ?_)) | (with_reducible (refine z05 (fun Qb kN kE kX kR => ?_))) | (with_reducible (refine z08 ?_)) | (with_reducible (refine z09 ?_)) | (with_reducible (refine z0m ?_)) | (with_reducible (refine z0a ?_)) | (with_reducible (refine z0b ?_)) | (with_reducible (show W _ _ _ (.cond _ _ _) _ _); refine z07 rfl ?_) | (with_reducible (refine hN _ ?_); (try clear hN hE hR Qs)) | (with_reducible (refine hE _ _ ?_); (try clear hN hE hR Qs)) | (with_reducible (refine hR _ ?_); (try clear hN hE hR Qs)) | (with_reducible (refine kN _ ?_); (try clear kN kE kX kR Qb)) | (with_reducible (refine kE _ ?_); (try clear kN kE kX kR Qb)) | (with_reducible (refine kX _ _ rfl ?_); (try clear kN kE kX kR Qb)) | (with_reducible (refine kR _ ?_); (try clear kN kE kX kR Qb)) | (refine stpQ ?_))
 refine z6X 0 ⟨[(1, .int .i64 ((k + cnG z0j es : Nat) : Int))], [(1, some (.deep 1 (mkG z1p z0j k es) []))], 2⟩ Nat (fun i => ⟨[(0, .ref 1), (1, .int .i64 ((k + cnG z0j (es.take i) : Nat) : Int)), (5, .int .i64 (i : Int))], [(1, some (.deep 1 (rwG z1p z0j k es i) []))], 2⟩) (fun i => i ≤ es.length) (fun i => es.length - i) 0 (Nat.zero_le _) ?_ ?_ ?_
 ·(refine z02 (by rfl) ?_ ?_) <;> (repeat' (first | (exact eqA) | (refine shE ?_) | (refine And.intro ?_ ?_))) <;> first | rfl | decide
 ·intro i hi
  have hlen := z50 z1p z0j (k := k) hi
  by_cases hlt : i < es.length
  ·have f1 : (i : Int) < ((rwG z1p z0j k es i).length : Int) := by omega
   have i1 : i < (rwG z1p z0j k es i).length := by omega
   have g := z7t z1p z0j (k := k) hlt
   have hcl := z2P z0j (es := es) (i := i + 1)
   obtain ⟨o0, he, w0, l0⟩ := hw _ (List.getElem_mem hlt)
   rw [he] at g
   have hnx : (rwG z1p z0j k es i).set i [.own 2 (mkG elLf szLf ((k + cnG z0j (es.take i))) o0)] = rwG z1p z0j k es (i + 1) := by
    have := z3y z1p z0j (k := k) hlt
    rw [he] at this
    exact this
   have hcn : cnG z0j (es.take (i + 1)) = cnG z0j (es.take i) + (0 + cnG szLf o0) := by
    have := z1A z0j hlt
    rw [he] at this
    exact this
   have hnp : 0 < k + cnG z0j (es.take i) := by omega
   have hnb : k + cnG z0j (es.take i) + (0 + cnG szLf o0) ≤ 1000000000000000000 := by omega
   have e11 : k + cnG z0j (es.take (i + 1)) = k + cnG z0j (es.take i) + (0 + cnG szLf o0) := by omega
   generalize rwG z1p z0j k es i = R at *
   generalize k + cnG z0j (es.take i) = n at *
   clear hb hk hcn hcl he hw
   have e10 : k + cnG z0j (es.take (i + 1)) = (n + cnG szLf o0) := by omega
   have d0 := z8k o0 w0 (n) (by omega) (by omega) l0
   have h1 : ∀ X, i < (R.set i X).length := fun X => by rw [List.length_set]; exact i1
   have gs : ∀ X, (R.set i X)[i]? = some X := fun X => by rw [List.getElem?_set_self i1]
   generalize mkG elLf szLf (n) o0 = p0 at *
   repeat ((try conv => whnf); first | (with_reducible (refine z0n (fun Qs hN hE hR => ?_))) | (with_reducible (refine z0l ?_)) | (with_reducible (refine z05 (fun Qb kN kE kX kR => ?_))) | (with_reducible (refine z08 ?_)) | (with_reducible (refine z09 ?_)) | (with_reducible (refine z0m ?_)) | (with_reducible (refine z0a ?_)) | (with_reducible (refine z0b ?_)) | (with_reducible (show W _ _ _ (.cond _ _ _) _ _); refine z07 rfl ?_) | (with_reducible (refine hN _ ?_); (try clear hN hE hR Qs)) | (with_reducible (refine hE _ _ ?_); (try clear hN hE hR Qs)) | (with_reducible (refine hR _ ?_); (try clear hN hE hR Qs)) | (with_reducible (refine kN _ ?_); (try clear kN kE kX kR Qb)) | (with_reducible (refine kE _ ?_); (try clear kN kE kX kR Qb)) | (with_reducible (refine kX _ _ rfl ?_); (try clear kN kE kX kR Qb)) | (with_reducible (refine kR _ ?_); (try clear kN kE kX kR Qb)) | (refine z0t f1 ?_) | (refine And.intro i1 ?_) | (refine And.intro (h1 _) ?_) | (refine Exists.intro _ (And.intro g ?_)) | (refine Exists.intro _ (And.intro (gs _) ?_)) | (refine ccB ([_]) (d0) ?_) | (refine And.intro (by kernel_rfl) ?_) | (rw [List.set_set]) | (refine stpQ ?_))
   refine ⟨i + 1, hlt, by omega, ?_⟩
   rw [e10]
   refine zb4 1 _ i 0 rfl rfl (by first | exact gs _ | (rw [List.set_set]; exact gs _) | (rw [List.set_set, List.set_set]; exact gs _)) ?_
   refine LeP.g ?_
   (refine z02 (by rfl) ?_ ?_) <;> (repeat' (first | (exact eqA) | (refine shE ?_) | (refine And.intro ?_ ?_))) <;> first | rfl | exact hnx | (simp only [List.set_set]; exact hnx)
  ·have hie : i = es.length := by omega
   subst hie
   have f1 : ¬ (es.length : Int) < ((rwG z1p z0j k es es.length).length : Int) := by omega
   repeat ((try conv => whnf); first | (with_reducible (refine z0n (fun Qs hN hE hR => ?_))) | (with_reducible (refine z0l ?_)) | (with_reducible (refine z05 (fun Qb kN kE kX kR => ?_))) | (with_reducible (refine z08 ?_)) | (with_reducible (refine z09 ?_)) | (with_reducible (refine z0m ?_)) | (with_reducible (refine z0a ?_)) | (with_reducible (refine z0b ?_)) | (with_reducible (show W _ _ _ (.cond _ _ _) _ _); refine z07 rfl ?_) | (with_reducible (refine hN _ ?_); (try clear hN hE hR Qs)) | (with_reducible (refine hE _ _ ?_); (try clear hN hE hR Qs)) | (with_reducible (refine hR _ ?_); (try clear hN hE hR Qs)) | (with_reducible (refine kN _ ?_); (try clear kN kE kX kR Qb)) | (with_reducible (refine kE _ ?_); (try clear kN kE kX kR Qb)) | (with_reducible (refine kX _ _ rfl ?_); (try clear kN kE kX kR Qb)) | (with_reducible (refine kR _ ?_); (try clear kN kE kX kR Qb)) | (refine z0i f1 ?_) | (refine stpQ ?_))
   rw [List.take_length]
   (refine z02 (by rfl) ?_ ?_) <;> (repeat' (first | (exact eqA) | (refine shE ?_) | (refine And.intro ?_ ?_))) <;> first | rfl | exact z3O _ _ _ _
 ·repeat ((try conv => whnf); first | (with_reducible (refine z0n (fun Qs hN hE hR => ?_))) | (with_reducible (refine z0l ?_)) | (with_reducible (refine z05 (fun Qb kN kE kX kR => ?_))) | (with_reducible (refine z08 ?_)) | (with_reducible (refine z09 ?_)) | (with_reducible (refine z0m ?_)) | (with_reducible (refine z0a ?_)) | (with_reducible (refine z0b ?_)) | (with_reducible (show W _ _ _ (.cond _ _ _) _ _); refine z07 rfl ?_) | (with_reducible (refine hN _ ?_); (try clear hN hE hR Qs)) | (with_reducible (refine hE _ _ ?_); (try clear hN hE hR Qs)) | (with_reducible (refine hR _ ?_); (try clear hN hE hR Qs)) | (with_reducible (refine kN _ ?_); (try clear kN kE kX kR Qb)) | (with_reducible (refine kE _ ?_); (try clear kN kE kX kR Qb)) | (with_reducible (refine kX _ _ rfl ?_); (try clear kN kE kX kR Qb)) | (with_reducible (refine kR _ ?_); (try clear kN kE kX kR Qb)) | (refine stpQ ?_))
  (refine z00 (by rfl) ?_ ?_ (by rfl)) <;> (repeat' (first | (exact eqA) | (refine shE ?_) | (refine And.intro ?_ ?_)))
theorem z7w (es : List (List T)) (hw : zc8 es) (k : Nat) (hk : 0 < k) (hb : k + cnG z0j es ≤ 1000000000000000000) (hl : (es.length : Int) ≤ 1000000000) :
 CT Tryz.prog 58 [.deep 1 (mkG z1p z0j k es) []] [.ref 1, .int .i64 (k : Int)] (.int .i64 ((k + cnG z0j es : Nat) : Int)) [.deep 1 (mkG z1p z0j k es) []] := by
 have hlen := z1U z1p z0j k es
 refine z01 z03 2 rfl Tryz.func58 rfl rfl rfl ?_
 conv => arg 6; whnf
 repeat ((try conv => whnf); first | (with_reducible (refine z0n (fun Qs hN hE hR => ?_))) | (with_reducible (refine z0l ?_)) | (with_reducible (refine z05 (fun Qb kN kE kX kR => ?_))) | (with_reducible (refine z08 ?_)) | (with_reducible (refine z09 ?_)) | (with_reducible (refine z0m ?_)) | (with_reducible (refine z0a ?_)) | (with_reducible (refine z0b ?_)) | (with_reducible (show W _ _ _ (.cond _ _ _) _ _); refine z07 rfl ?_) | (with_reducible (refine hN _ ?_); (try clear hN hE hR Qs)) | (with_reducible (refine hE _ _ ?_); (try clear hN hE hR Qs)) | (with_reducible (refine hR _ ?_); (try clear hN hE hR Qs)) | (with_reducible (refine kN _ ?_); (try clear kN kE kX kR Qb)) | (with_reducible (refine kE _ ?_); (try clear kN kE kX kR Qb)) | (with_reducible (refine kX _ _ rfl ?_); (try clear kN kE kX kR Qb)) | (with_reducible (refine kR _ ?_); (try clear kN kE kX kR Qb)) | (refine stpQ ?_))
 refine z6X 0 ⟨[(1, .int .i64 ((k + cnG z0j es : Nat) : Int))], [(1, some (.deep 1 (mkG z1p z0j k es) []))], 2⟩ Nat (fun i => ⟨[(0, .ref 1), (1, .int .i64 ((k + cnG z0j (es.take i) : Nat) : Int)), (5, .int .i64 (i : Int))], [(1, some (.deep 1 (mkG z1p z0j k es) []))], 2⟩) (fun i => i ≤ es.length) (fun i => es.length - i) 0 (Nat.zero_le _) ?_ ?_ ?_
 ·(refine z02 (by rfl) ?_ ?_) <;> (repeat' (first | (exact eqA) | (refine shE ?_) | (refine And.intro ?_ ?_))) <;> first | rfl | decide
 ·intro i hi
  by_cases hlt : i < es.length
  ·have f1 : (i : Int) < ((mkG z1p z0j k es).length : Int) := by omega
   have i1 : i < (mkG z1p z0j k es).length := by omega
   have hcl := z2P z0j (es := es) (i := i + 1)
   obtain ⟨o0, he, w0, l0⟩ := hw _ (List.getElem_mem hlt)
   have g : (mkG z1p z0j k es)[i]? = some [.own 2 (mkG elLf szLf ((k + cnG z0j (es.take i))) o0)] := by
    have := z4Z z1p z0j k hlt
    rw [he] at this
    exact this
   have hcn : cnG z0j (es.take (i + 1)) = cnG z0j (es.take i) + (0 + cnG szLf o0) := by
    have := z1A z0j hlt
    rw [he] at this
    exact this
   have hnp : 0 < k + cnG z0j (es.take i) := by omega
   have hnb : k + cnG z0j (es.take i) + (0 + cnG szLf o0) ≤ 1000000000000000000 := by omega
   have e11 : k + cnG z0j (es.take (i + 1)) = k + cnG z0j (es.take i) + (0 + cnG szLf o0) := by omega
   generalize mkG z1p z0j k es = R at *
   generalize k + cnG z0j (es.take i) = n at *
   clear hb hk hcn hcl he hw
   have e10 : k + cnG z0j (es.take (i + 1)) = (n + cnG szLf o0) := by omega
   have d0 := z8l o0 (n) (by omega) (by omega) l0
   have z0 : ¬ ((n + cnG szLf o0 : Nat) : Int) < 0 := by omega
   have h1 : ∀ X, i < (R.set i X).length := fun X => by rw [List.length_set]; exact i1
   have gs : ∀ X, (R.set i X)[i]? = some X := fun X => by rw [List.getElem?_set_self i1]
   have hnx := z3f g
   generalize mkG elLf szLf (n) o0 = p0 at *
   repeat ((try conv => whnf); first | (with_reducible (refine z0n (fun Qs hN hE hR => ?_))) | (with_reducible (refine z0l ?_)) | (with_reducible (refine z05 (fun Qb kN kE kX kR => ?_))) | (with_reducible (refine z08 ?_)) | (with_reducible (refine z09 ?_)) | (with_reducible (refine z0m ?_)) | (with_reducible (refine z0a ?_)) | (with_reducible (refine z0b ?_)) | (with_reducible (show W _ _ _ (.cond _ _ _) _ _); refine z07 rfl ?_) | (with_reducible (refine hN _ ?_); (try clear hN hE hR Qs)) | (with_reducible (refine hE _ _ ?_); (try clear hN hE hR Qs)) | (with_reducible (refine hR _ ?_); (try clear hN hE hR Qs)) | (with_reducible (refine kN _ ?_); (try clear kN kE kX kR Qb)) | (with_reducible (refine kE _ ?_); (try clear kN kE kX kR Qb)) | (with_reducible (refine kX _ _ rfl ?_); (try clear kN kE kX kR Qb)) | (with_reducible (refine kR _ ?_); (try clear kN kE kX kR Qb)) | (refine z0t f1 ?_) | (refine And.intro i1 ?_) | (refine And.intro (h1 _) ?_) | (refine Exists.intro _ (And.intro g ?_)) | (refine Exists.intro _ (And.intro (gs _) ?_)) | (refine z0i z0 ?_) | (refine ccB ([_]) (d0) ?_) | (refine And.intro (by kernel_rfl) ?_) | (rw [List.set_set]) | (refine stpQ ?_))
   refine ⟨i + 1, hlt, by omega, ?_⟩
   rw [e10]
   refine zb4 1 _ i 0 rfl rfl (by first | exact gs _ | (rw [List.set_set]; exact gs _) | (rw [List.set_set, List.set_set]; exact gs _)) ?_
   refine LeP.g ?_
   (refine z02 (by rfl) ?_ ?_) <;> (repeat' (first | (exact eqA) | (refine shE ?_) | (refine And.intro ?_ ?_))) <;> first | rfl | exact hnx | (simp only [List.set_set]; exact hnx)
  ·have hie : i = es.length := by omega
   subst hie
   have f1 : ¬ (es.length : Int) < ((mkG z1p z0j k es).length : Int) := by omega
   repeat ((try conv => whnf); first | (with_reducible (refine z0n (fun Qs hN hE hR => ?_))) | (with_reducible (refine z0l ?_)) | (with_reducible (refine z05 (fun Qb kN kE kX kR => ?_))) | (with_reducible (refine z08 ?_)) | (with_reducible (refine z09 ?_)) | (with_reducible (refine z0m ?_)) | (with_reducible (refine z0a ?_)) | (with_reducible (refine z0b ?_)) | (with_reducible (show W _ _ _ (.cond _ _ _) _ _); refine z07 rfl ?_) | (with_reducible (refine hN _ ?_); (try clear hN hE hR Qs)) | (with_reducible (refine hE _ _ ?_); (try clear hN hE hR Qs)) | (with_reducible (refine hR _ ?_); (try clear hN hE hR Qs)) | (with_reducible (refine kN _ ?_); (try clear kN kE kX kR Qb)) | (with_reducible (refine kE _ ?_); (try clear kN kE kX kR Qb)) | (with_reducible (refine kX _ _ rfl ?_); (try clear kN kE kX kR Qb)) | (with_reducible (refine kR _ ?_); (try clear kN kE kX kR Qb)) | (refine z0i f1 ?_) | (refine stpQ ?_))
   rw [List.take_length]
   (refine z02 (by rfl) ?_ ?_) <;> (repeat' (first | (exact eqA) | (refine shE ?_) | (refine And.intro ?_ ?_))) <;> first | rfl | exact z3O _ _ _ _
 ·repeat ((try conv => whnf); first | (with_reducible (refine z0n (fun Qs hN hE hR => ?_))) | (with_reducible (refine z0l ?_)) | (with_reducible (refine z05 (fun Qb kN kE kX kR => ?_))) | (with_reducible (refine z08 ?_)) | (with_reducible (refine z09 ?_)) | (with_reducible (refine z0m ?_)) | (with_reducible (refine z0a ?_)) | (with_reducible (refine z0b ?_)) | (with_reducible (show W _ _ _ (.cond _ _ _) _ _); refine z07 rfl ?_) | (with_reducible (refine hN _ ?_); (try clear hN hE hR Qs)) | (with_reducible (refine hE _ _ ?_); (try clear hN hE hR Qs)) | (with_reducible (refine hR _ ?_); (try clear hN hE hR Qs)) | (with_reducible (refine kN _ ?_); (try clear kN kE kX kR Qb)) | (with_reducible (refine kE _ ?_); (try clear kN kE kX kR Qb)) | (with_reducible (refine kX _ _ rfl ?_); (try clear kN kE kX kR Qb)) | (with_reducible (refine kR _ ?_); (try clear kN kE kX kR Qb)) | (refine stpQ ?_))
  (refine z00 (by rfl) ?_ ?_ (by rfl)) <;> (repeat' (first | (exact eqA) | (refine shE ?_) | (refine And.intro ?_ ?_)))
end
section
attribute [local irreducible] z0F z0I z0T AnsP LeP W
end
section
attribute [local irreducible] z0F z0I z0T AnsP LeP W
end
end Go.Proofs.YtbcgmjdfnjmhoaaGreatDoor
namespace Go.Proofs.YtbcgmjdfnjmhoaaGreatDoor
set_option maxRecDepth 100000
set_option maxHeartbeats 4000000
set_option linter.unusedVariables false
set_option linter.unusedSimpArgs false
set_option linter.unusedSectionVars false
open Go.RowKit Pl
section
attribute [local irreducible] z0F z0I z0T AnsP LeP W
theorem z5P  (z0 : List (List T)) (w0 : WfFl z0) (l0 : (z0.length : Int) ≤ 1000000000) (k : Nat) (hk : 0 < k) (hb : k + cnG szFl z0 ≤ 1000000000000000000) :
 CT Tryz.prog 15 [.deep 3 (z0) []] [.agg [.ref 1], .int .i64 (k : Int)] (.int .i64 ((k + cnG szFl z0 : Nat) : Int)) [.deep 3 (mkG elFl szFl (k) z0) []] := by
 have d0 := z8i z0 w0 (k) (by omega) (by omega) l0
 generalize mkG elFl szFl (k) z0 = p0 at *
 refine z01 z03 2 rfl Tryz.func15 rfl rfl rfl ?_
 conv => arg 6; whnf
 repeat ((try conv => whnf); first | (with_reducible (refine z0n (fun Qs hN hE hR => ?_))) | (with_reducible (refine z0l ?_)) | (with_reducible (refine z05 (fun Qb kN kE kX kR => ?_))) | (with_reducible (refine z08 ?_)) | (with_reducible (refine z09 ?_)) | (with_reducible (refine z0m ?_)) | (with_reducible (refine z0a ?_)) | (with_reducible (refine z0b ?_)) | (with_reducible (show W _ _ _ (.cond _ _ _) _ _); refine z07 rfl ?_) | (with_reducible (refine hN _ ?_); (try clear hN hE hR Qs)) | (with_reducible (refine hE _ _ ?_); (try clear hN hE hR Qs)) | (with_reducible (refine hR _ ?_); (try clear hN hE hR Qs)) | (with_reducible (refine kN _ ?_); (try clear kN kE kX kR Qb)) | (with_reducible (refine kE _ ?_); (try clear kN kE kX kR Qb)) | (with_reducible (refine kX _ _ rfl ?_); (try clear kN kE kX kR Qb)) | (with_reducible (refine kR _ ?_); (try clear kN kE kX kR Qb)) | (refine ccB ([_]) (d0) ?_) | (refine And.intro (by kernel_rfl) ?_) | (refine stpQ ?_))
 (refine z00 (by rfl) ?_ ?_ (by rfl)) <;> (repeat' (first | (exact eqA) | (refine shE ?_) | (refine And.intro ?_ ?_)))
theorem zaj  (z0 : List (List T)) (w0 : WfFl z0) (l0 : (z0.length : Int) ≤ 1000000000) (k : Nat) (hk : 0 < k) (hb : k + cnG szFl z0 ≤ 1000000000000000000) :
 CT Tryz.prog 57 [.deep 3 (mkG elFl szFl (k) z0) []] [.agg [.ref 1], .int .i64 (k : Int)] (.int .i64 ((k + cnG szFl z0 : Nat) : Int)) [.deep 3 (mkG elFl szFl (k) z0) []] := by
 have d0 := z8j z0 (k) (by omega) (by omega) l0
 have y0 : ¬ ((k + cnG szFl z0 : Nat) : Int) < 0 := by omega
 generalize mkG elFl szFl (k) z0 = p0 at *
 refine z01 z03 2 rfl Tryz.func57 rfl rfl rfl ?_
 conv => arg 6; whnf
 repeat ((try conv => whnf); first | (with_reducible (refine z0n (fun Qs hN hE hR => ?_))) | (with_reducible (refine z0l ?_)) | (with_reducible (refine z05 (fun Qb kN kE kX kR => ?_))) | (with_reducible (refine z08 ?_)) | (with_reducible (refine z09 ?_)) | (with_reducible (refine z0m ?_)) | (with_reducible (refine z0a ?_)) | (with_reducible (refine z0b ?_)) | (with_reducible (show W _ _ _ (.cond _ _ _) _ _); refine z07 rfl ?_) | (with_reducible (refine hN _ ?_); (try clear hN hE hR Qs)) | (with_reducible (refine hE _ _ ?_); (try clear hN hE hR Qs)) | (with_reducible (refine hR _ ?_); (try clear hN hE hR Qs)) | (with_reducible (refine kN _ ?_); (try clear kN kE kX kR Qb)) | (with_reducible (refine kE _ ?_); (try clear kN kE kX kR Qb)) | (with_reducible (refine kX _ _ rfl ?_); (try clear kN kE kX kR Qb)) | (with_reducible (refine kR _ ?_); (try clear kN kE kX kR Qb)) | (refine z0i y0 ?_) | (refine ccB ([_]) (d0) ?_) | (refine And.intro (by kernel_rfl) ?_) | (refine stpQ ?_))
 (refine z00 (by rfl) ?_ ?_ (by rfl)) <;> (repeat' (first | (exact eqA) | (refine shE ?_) | (refine And.intro ?_ ?_)))
theorem z7x (a0 : Int) (a1 : Int) (a2 : Bool) (a4 : Int) (a8 : Int) (a9 : Int) (a10 : Int) (z3 : List (List T)) (w3 : WfFl z3) (l3 : (z3.length : Int) ≤ 1000000000) (z5 : List (List T)) (w5 : zc8 z5) (l5 : (z5.length : Int) ≤ 1000000000) (z6 : List (List T)) (w6 : WfIt z6) (l6 : (z6.length : Int) ≤ 1000000000) (z7 : List (List T)) (w7 : WfCh z7) (l7 : (z7.length : Int) ≤ 1000000000) (k : Nat) (hk : 0 < k) (hb : k + cnG szFl z3 + cnG z0j z5 + cnG szIt z6 + cnG szCh z7 ≤ 1000000000000000000) :
 CT Tryz.prog 16 [.deep 3 (z3) [], .deep 1 (z5) [], .deep 1 (z6) [], .deep 3 (z7) []] [.agg [.int .i64 a0, .int .i64 a1, .bool a2, .ref 1, .int .i64 a4, .ref 2, .ref 3, .ref 4, .int .i64 a8, .int .i64 a9, .int .i64 a10], .int .i64 (k : Int)] (.int .i64 ((k + cnG szFl z3 + cnG z0j z5 + cnG szIt z6 + cnG szCh z7 : Nat) : Int)) [.deep 3 (mkG elFl szFl (k) z3) [], .deep 1 (mkG z1p z0j (k + cnG szFl z3) z5) [], .deep 1 (mkG elIt szIt (k + cnG szFl z3 + cnG z0j z5) z6) [], .deep 3 (mkG elCh szCh (k + cnG szFl z3 + cnG z0j z5 + cnG szIt z6) z7) []] := by
 have d0 := z5P  z3 w3 l3 (k) (by omega) (by omega)
 have d1 := z7v z5 w5 (k + cnG szFl z3) (by omega) (by omega) l5
 have d2 := zaf z6 w6 (k + cnG szFl z3 + cnG z0j z5) (by omega) (by omega) l6
 have d3 := z6r z7 w7 (k + cnG szFl z3 + cnG z0j z5 + cnG szIt z6) (by omega) (by omega) l7
 generalize mkG elFl szFl (k) z3 = p3 at *
 generalize mkG z1p z0j (k + cnG szFl z3) z5 = p5 at *
 generalize mkG elIt szIt (k + cnG szFl z3 + cnG z0j z5) z6 = p6 at *
 generalize mkG elCh szCh (k + cnG szFl z3 + cnG z0j z5 + cnG szIt z6) z7 = p7 at *
 refine z01 z03 5 rfl Tryz.func16 rfl rfl rfl ?_
 conv => arg 6; whnf
 repeat ((try conv => whnf); first | (with_reducible (refine z0n (fun Qs hN hE hR => ?_))) | (with_reducible (refine z0l ?_)) | (with_reducible (refine z05 (fun Qb kN kE kX kR => ?_))) | (with_reducible (refine z08 ?_)) | (with_reducible (refine z09 ?_)) | (with_reducible (refine z0m ?_)) | (with_reducible (refine z0a ?_)) | (with_reducible (refine z0b ?_)) | (with_reducible (show W _ _ _ (.cond _ _ _) _ _); refine z07 rfl ?_) | (with_reducible (refine hN _ ?_); (try clear hN hE hR Qs)) | (with_reducible (refine hE _ _ ?_); (try clear hN hE hR Qs)) | (with_reducible (refine hR _ ?_); (try clear hN hE hR Qs)) | (with_reducible (refine kN _ ?_); (try clear kN kE kX kR Qb)) | (with_reducible (refine kE _ ?_); (try clear kN kE kX kR Qb)) | (with_reducible (refine kX _ _ rfl ?_); (try clear kN kE kX kR Qb)) | (with_reducible (refine kR _ ?_); (try clear kN kE kX kR Qb)) | (refine ccB ([_]) (d0) ?_) | (refine ccB ([_]) (d1) ?_) | (refine ccB ([_]) (d2) ?_) | (refine ccB ([_]) (d3) ?_) | (refine And.intro (by kernel_rfl) ?_) | (refine stpQ ?_))
 (refine z00 (by rfl) ?_ ?_ (by rfl)) <;> (repeat' (first | (exact eqA) | (refine shE ?_) | (refine And.intro ?_ ?_)))
theorem z7y (a0 : Int) (a1 : Int) (a2 : Bool) (a4 : Int) (a8 : Int) (a9 : Int) (a10 : Int) (z3 : List (List T)) (w3 : WfFl z3) (l3 : (z3.length : Int) ≤ 1000000000) (z5 : List (List T)) (w5 : zc8 z5) (l5 : (z5.length : Int) ≤ 1000000000) (z6 : List (List T)) (w6 : WfIt z6) (l6 : (z6.length : Int) ≤ 1000000000) (z7 : List (List T)) (w7 : WfCh z7) (l7 : (z7.length : Int) ≤ 1000000000) (k : Nat) (hk : 0 < k) (hb : k + cnG szFl z3 + cnG z0j z5 + cnG szIt z6 + cnG szCh z7 ≤ 1000000000000000000) :
 CT Tryz.prog 17 [.deep 3 (mkG elFl szFl (k) z3) [], .deep 1 (mkG z1p z0j (k + cnG szFl z3) z5) [], .deep 1 (mkG elIt szIt (k + cnG szFl z3 + cnG z0j z5) z6) [], .deep 3 (mkG elCh szCh (k + cnG szFl z3 + cnG z0j z5 + cnG szIt z6) z7) []] [.agg [.int .i64 a0, .int .i64 a1, .bool a2, .ref 1, .int .i64 a4, .ref 2, .ref 3, .ref 4, .int .i64 a8, .int .i64 a9, .int .i64 a10], .int .i64 (k : Int)] (.int .i64 ((k + cnG szFl z3 + cnG z0j z5 + cnG szIt z6 + cnG szCh z7 : Nat) : Int)) [.deep 3 (mkG elFl szFl (k) z3) [], .deep 1 (mkG z1p z0j (k + cnG szFl z3) z5) [], .deep 1 (mkG elIt szIt (k + cnG szFl z3 + cnG z0j z5) z6) [], .deep 3 (mkG elCh szCh (k + cnG szFl z3 + cnG z0j z5 + cnG szIt z6) z7) []] := by
 have d0 := zaj  z3 w3 l3 (k) (by omega) (by omega)
 have y0 : ¬ ((k + cnG szFl z3 : Nat) : Int) < 0 := by omega
 have d1 := z7w z5 w5 (k + cnG szFl z3) (by omega) (by omega) l5
 have y1 : ¬ ((k + cnG szFl z3 + cnG z0j z5 : Nat) : Int) < 0 := by omega
 have d2 := zag z6 (k + cnG szFl z3 + cnG z0j z5) (by omega) (by omega) l6
 have y2 : ¬ ((k + cnG szFl z3 + cnG z0j z5 + cnG szIt z6 : Nat) : Int) < 0 := by omega
 have d3 := z6s z7 (k + cnG szFl z3 + cnG z0j z5 + cnG szIt z6) (by omega) (by omega) l7
 have y3 : ¬ ((k + cnG szFl z3 + cnG z0j z5 + cnG szIt z6 + cnG szCh z7 : Nat) : Int) < 0 := by omega
 generalize mkG elFl szFl (k) z3 = p3 at *
 generalize mkG z1p z0j (k + cnG szFl z3) z5 = p5 at *
 generalize mkG elIt szIt (k + cnG szFl z3 + cnG z0j z5) z6 = p6 at *
 generalize mkG elCh szCh (k + cnG szFl z3 + cnG z0j z5 + cnG szIt z6) z7 = p7 at *
 refine z01 z03 5 rfl Tryz.func17 rfl rfl rfl ?_
 conv => arg 6; whnf
 repeat ((try conv => whnf); first | (with_reducible (refine z0n (fun Qs hN hE hR => ?_))) | (with_reducible (refine z0l ?_)) | (with_reducible (refine z05 (fun Qb kN kE kX kR => ?_))) | (with_reducible (refine z08 ?_)) | (with_reducible (refine z09 ?_)) | (with_reducible (refine z0m ?_)) | (with_reducible (refine z0a ?_)) | (with_reducible (refine z0b ?_)) | (with_reducible (show W _ _ _ (.cond _ _ _) _ _); refine z07 rfl ?_) | (with_reducible (refine hN _ ?_); (try clear hN hE hR Qs)) | (with_reducible (refine hE _ _ ?_); (try clear hN hE hR Qs)) | (with_reducible (refine hR _ ?_); (try clear hN hE hR Qs)) | (with_reducible (refine kN _ ?_); (try clear kN kE kX kR Qb)) | (with_reducible (refine kE _ ?_); (try clear kN kE kX kR Qb)) | (with_reducible (refine kX _ _ rfl ?_); (try clear kN kE kX kR Qb)) | (with_reducible (refine kR _ ?_); (try clear kN kE kX kR Qb)) | (refine z0i y0 ?_) | (refine ccB ([_]) (d0) ?_) | (refine z0i y1 ?_) | (refine ccB ([_]) (d1) ?_) | (refine z0i y2 ?_) | (refine ccB ([_]) (d2) ?_) | (refine z0i y3 ?_) | (refine ccB ([_]) (d3) ?_) | (refine And.intro (by kernel_rfl) ?_) | (refine stpQ ?_))
 (refine z00 (by rfl) ?_ ?_ (by rfl)) <;> (repeat' (first | (exact eqA) | (refine shE ?_) | (refine And.intro ?_ ?_)))
end
end Go.Proofs.YtbcgmjdfnjmhoaaGreatDoor
