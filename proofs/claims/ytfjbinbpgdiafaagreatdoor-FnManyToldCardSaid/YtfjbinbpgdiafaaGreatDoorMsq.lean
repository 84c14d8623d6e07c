/- Functions by content: what a right proof of many says; the laws compare proofs of many. Functions by content: what any proof of many says, both sides. -/
import Derived.Test.YtfjbinbpgdiafaaGreatDoorPmx
import Derived.Test.YtfjbinbpgdiafaaGreatDoorMrr2
import Derived.Test.YtfjbinbpgdiafaaGreatDoorFc
import Derived.Test.YtfjbinbpgdiafaaGreatDoorTt
import Derived.Test.YtfjbinbpgdiafaaGreatDoorMrs
namespace Go.Proofs.YtfjbinbpgdiafaaGreatDoor
set_option linter.unusedVariables false
set_option linter.unusedSimpArgs false
set_option linter.unusedSectionVars false
open Go.RowKit Pl
theorem zaC {names : List Bs} {s : Bs} (h : s ∈ names) : ixB s ∈ ixsN names := by
 have h1 := z5G (names.map fun s => (ixB s : Int)) [] (ixB s : Int) (.inr (List.mem_map_of_mem h))
 have h2 := (z3n (names.map fun s => (ixB s : Int)) [] [] List.Pairwise.nil (List.Perm.refl _)).2
 have h3 : (ixB s : Int) ∈ ixsI names := h2.mem_iff.2 h1
 have h4 : (ixB s : Int).toNat ∈ ixsN names := List.mem_map_of_mem h3
 exact h4
section
attribute [local irreducible] z0t z0u z0A AnsP LeP W CvE
set_option maxRecDepth 100000 in
set_option maxHeartbeats 4000000 in
theorem z3t (names : List Bs) (bks : List (List Lf)) (sides : List Bs) (B : List (List T)) (eB : B = bkE bks) (A C : List (List T)) (eA : A = strE names) (eC : C = strE sides) (hn : names.length ≤ 1000) (hb : bks.length ≤ 1000) (hbk : ∀ b ∈ bks, (b.length : Int) ≤ 100000000) (hs : sides.length ≤ 1000) : CT Tryz.prog 30 [] [.agg [.sl 1 A, .sl 1 B, .sl 1 C], .agg [.sl 1 (strE names), .sl 1 (bkE bks), .sl 1 (strE sides)]] (.bool true) [] := by
 subst eA eB eC
 have c0 := z5C names names (by omega) (by omega)
 rw [decide_eq_true rfl] at c0
 have c2 := z5C sides sides (by omega) (by omega)
 rw [decide_eq_true rfl] at c2
 have hbe := z2c bks
 have f0 : ((bks.length : Nat) : Int) = ((bks.length : Nat) : Int) := rfl
 have hbk2 : ∀ i (h : i < bks.length), (bks[i].length : Int) ≤ 100000000 := fun i h => hbk _ (List.getElem_mem h)
 refine z0b z0p 1 rfl Tryz.func30 rfl rfl rfl ?_
 conv => arg 6; whnf
 repeat ((try conv => whnf); first | (with_reducible first | refine z0a (fun Qs hN hE hR => ?_) | refine z08 ?_ | refine z00 (fun Qb kN kE kX kR => ?_) | refine z04 ?_ | refine z05 ?_ | refine z09 ?_ | refine z06 ?_ | refine z07 ?_ | (show W _ _ _ (.cond _ _ _) _ _; refine z03 rfl ?_) | (refine hN _ ?_; try clear hN hE hR Qs; (try (conv => arg 6; dsimp only [ovl, List.set, List.map, ren0]))) | ((first | refine hE _ _ ?_ | refine hR _ ?_); try clear hN hE hR Qs) | ((first | refine kN _ ?_ | refine kE _ ?_ | refine kX _ _ rfl ?_ | refine kR _ ?_); try clear kN kE kX kR Qb)) | (refine ccA ([]) (c0) ?_) | (refine ccA ([]) (c2) ?_) | (refine Exists.intro bks.length (And.intro hbe ?_)) | (refine z3k f0 ?_) | (refine And.intro (by kernel_rfl) ?_) | (refine stpQ ?_))
 refine z1o Nat (fun i => ⟨[(2, .ptr 1 0 0), (3, .ptr 2 0 0), (5, .int .i64 (i : Int))], [(1, some (.box [.sl 1 (strE names), .sl 1 (bkE bks), .sl 1 (strE sides)])), (2, some (.box [.sl 1 (strE names), .sl 1 (bkE bks), .sl 1 (strE sides)]))], 3⟩) (fun i => i ≤ bks.length) (fun i => bks.length - i) 0 (Nat.zero_le _) ?_ ?_
 ·(refine z01 (by rfl) ?_ ?_)
  all_goals (repeat' (first | (exact trivial) | ((try conv => whnf); first | (exact trivial) | (refine And.intro ?_ ?_))))
  all_goals first
   | rfl
   | decide
 ·intro Q1 hQ1 i hi
  by_cases hlt : i < bks.length
  ·have f1 : (i : Int) < ((bks.length : Nat) : Int) := by omega
   have gi := z2T hlt
   have h1 := hbk2 i hlt
   have cS := z8j bks[i] bks[i] h1 h1
   rw [decide_eq_true rfl] at cS
   generalize lvE bks[i] = BB at *
   repeat ((try conv => whnf); first | (with_reducible first | refine z0a (fun Qs hN hE hR => ?_) | refine z08 ?_ | refine z00 (fun Qb kN kE kX kR => ?_) | refine z04 ?_ | refine z05 ?_ | refine z09 ?_ | refine z06 ?_ | refine z07 ?_ | (show W _ _ _ (.cond _ _ _) _ _; refine z03 rfl ?_) | (refine hN _ ?_; try clear hN hE hR Qs; (try (conv => arg 6; dsimp only [ovl, List.set, List.map, ren0]))) | ((first | refine hE _ _ ?_ | refine hR _ ?_); try clear hN hE hR Qs) | ((first | refine kN _ ?_ | refine kE _ ?_ | refine kX _ _ rfl ?_ | refine kR _ ?_); try clear kN kE kX kR Qb)) | (refine Exists.intro bks.length (And.intro hbe ?_)) | (refine z0c f1 ?_) | (refine i_at gi ?_) | (refine ccA ([]) (cS) ?_) | (refine And.intro (by kernel_rfl) ?_) | (refine stpQ ?_))
   refine ⟨i + 1, hlt, by omega, ?_⟩
   (refine z01 (by rfl) ?_ ?_) <;> (repeat' (first | (exact eqA) | (refine And.intro ?_ ?_) | ((fail_if_success (with_reducible (show _ = _))); (show _ = _)))) <;> rfl
  ·obtain rfl : i = bks.length := by omega
   have f1 : ¬ ((bks.length : Nat) : Int) < ((bks.length : Nat) : Int) := by omega
   repeat ((try conv => whnf); first | (with_reducible first | refine z0a (fun Qs hN hE hR => ?_) | refine z08 ?_ | refine z00 (fun Qb kN kE kX kR => ?_) | refine z04 ?_ | refine z05 ?_ | refine z09 ?_ | refine z06 ?_ | refine z07 ?_ | (show W _ _ _ (.cond _ _ _) _ _; refine z03 rfl ?_) | (refine hN _ ?_; try clear hN hE hR Qs; (try (conv => arg 6; dsimp only [ovl, List.set, List.map, ren0]))) | ((first | refine hE _ _ ?_ | refine hR _ ?_); try clear hN hE hR Qs) | ((first | refine kN _ ?_ | refine kE _ ?_ | refine kX _ _ rfl ?_ | refine kR _ ?_); try clear kN kE kX kR Qb)) | (refine Exists.intro bks.length (And.intro hbe ?_)) | (refine z0d f1 ?_) | (refine stpQ ?_))
   refine hQ1 _ _ ?_
   clear hQ1 Q1
   repeat ((try conv => whnf); first | (with_reducible first | refine z0a (fun Qs hN hE hR => ?_) | refine z08 ?_ | refine z00 (fun Qb kN kE kX kR => ?_) | refine z04 ?_ | refine z05 ?_ | refine z09 ?_ | refine z06 ?_ | refine z07 ?_ | (show W _ _ _ (.cond _ _ _) _ _; refine z03 rfl ?_) | (refine hN _ ?_; try clear hN hE hR Qs; (try (conv => arg 6; dsimp only [ovl, List.set, List.map, ren0]))) | ((first | refine hE _ _ ?_ | refine hR _ ?_); try clear hN hE hR Qs) | ((first | refine kN _ ?_ | refine kE _ ?_ | refine kX _ _ rfl ?_ | refine kR _ ?_); try clear kN kE kX kR Qb)) | (refine stpQ ?_))
   (refine z02 (by rfl) ?_ ?_ (by rfl)) <;> (repeat' (first | (exact eqA) | (refine And.intro ?_ ?_) | ((fail_if_success (with_reducible (show _ = _))); (show _ = _))))
end
end Go.Proofs.YtfjbinbpgdiafaaGreatDoor
namespace Go.Proofs.YtfjbinbpgdiafaaGreatDoor
set_option maxRecDepth 100000
set_option maxHeartbeats 8000000
set_option linter.unusedVariables false
set_option linter.unusedSimpArgs false
set_option linter.unusedSectionVars false
open Go.RowKit Pl
structure SayP (names : List Bs) (K : List Nat) (bks : List (List Lf)) (ix : Nat) (nm : Bs) (p : Nat) (f : Bool) : Prop where
 yes : f = true → nm ∈ names ∧ p < bks.length
 no : f = false → nm ∈ names → bks.length ≤ p
 at_ : nm ∈ names → ∃ h : p < K.length, K[p] = ix
 uq : ∀ j (h : j < K.length), K[j] = ix → j = p
theorem say_ex (names : List Bs) (bks : List (List Lf)) (nm : Bs) : ∃ p f, SayP names (ixsN names) bks (ixB nm) nm p f := by
 have hs := z2b names
 have uq : ∀ i j (hi : i < (ixsN names).length) (hj : j < (ixsN names).length), (ixsN names)[i] = (ixsN names)[j] → i = j := fun i j hi hj e => by
  rcases Nat.lt_trichotomy i j with h | h | h
  ·have := List.pairwise_iff_getElem.1 hs i j hi hj h; omega
  ·exact h
  ·have := List.pairwise_iff_getElem.1 hs j i hj hi h; omega
 by_cases hm : ixB nm ∈ ixsN names
 ·obtain ⟨p, hp, e⟩ := List.getElem_of_mem hm
  refine ⟨p, decide (nm ∈ names ∧ p < bks.length), ⟨fun h => of_decide_eq_true h, fun h hn => ?_, fun _ => ⟨hp, e⟩, fun j hj ej => uq j p hj hp (by rw [ej, e])⟩⟩
  have := of_decide_eq_false h
  rcases Nat.lt_or_ge p bks.length with h2 | h2
  ·exact absurd ⟨hn, h2⟩ this
  ·exact h2
 ·refine ⟨0, false, ⟨(fun h => by cases h), fun _ hn => absurd (zaC hn) hm, fun hn => absurd (zaC hn) hm, fun j hj ej => absurd (by rw [← ej]; exact List.getElem_mem hj) hm⟩⟩
def sayV (bks : List (List Lf)) (p : Nat) (nm : Bs) (f : Bool) : Option Bs := bif f then z0W (bks.getD p []) nm else none
section
attribute [local irreducible] z0t z0u z0A AnsP LeP W CvE
theorem z9s (names : List Bs) (bks : List (List Lf)) (sides : List (List T)) (nm : Bs) (hn : names.length ≤ 1000) (hl : ∀ s ∈ names, (s.length : Int) ≤ 100000000) (hb : bks.length ≤ 1000) (hbk : ∀ b ∈ bks, Sml b) (hln : (nm.length : Int) ≤ 1000000) {p : Nat} {f : Bool} (hS : SayP names (ixsN names) bks (ixB nm) nm p f) : CT Tryz.prog 28 [] [.agg [.sl 1 (strE names), .sl 1 (bkE bks), .sl 1 sides], .str nm] (.tup [.str ((sayV bks p nm f).getD []), .bool (sayV bks p nm f).isSome, .bool f]) [] := by
 have cI := z3I nm (by omega)
 have cX := z3o names (by omega) hl
 rw [z5s] at cX
 have hne := z0h names
 have hbe := z2c bks
 have hKn := z1Y names
 generalize ixsN names = K at *
 generalize ixB nm = ix at *
 have hKe := z1d K
 obtain ⟨h1, h2, h3, h4⟩ := hS
 obtain ⟨G, hG⟩ : ∃ G, G = sayV bks p nm f := ⟨_, rfl⟩
 rw [← hG]
 refine z0b z0p 1 rfl Tryz.func28 rfl rfl rfl ?_
 conv => arg 6; whnf
 repeat ((try conv => whnf); first | (with_reducible first | refine z0a (fun Qs hN hE hR => ?_) | refine z08 ?_ | refine z00 (fun Qb kN kE kX kR => ?_) | refine z04 ?_ | refine z05 ?_ | refine z09 ?_ | refine z06 ?_ | refine z07 ?_ | (show W _ _ _ (.cond _ _ _) _ _; refine z03 rfl ?_) | (refine hN _ ?_; try clear hN hE hR Qs; (try (conv => arg 6; dsimp only [ovl, List.set, List.map, ren0]))) | ((first | refine hE _ _ ?_ | refine hR _ ?_); try clear hN hE hR Qs) | ((first | refine kN _ ?_ | refine kE _ ?_ | refine kX _ _ rfl ?_ | refine kR _ ?_); try clear kN kE kX kR Qb)) | (refine ccA ([]) (cI) ?_) | (refine Exists.intro names.length (And.intro hne ?_)) | (refine And.intro (by kernel_rfl) ?_) | (refine stpQ ?_))
 refine z1o Nat (fun i => ⟨[(1, .str nm), (2, .ptr 1 0 0), (7, .int .i64 (ix : Int)), (17, .sl 1 (strE names)), (18, .int .i64 ((names.length : Nat) : Int)), (19, .int .i64 (i : Int))], [(1, some (.box [.sl 1 (strE names), .sl 1 (bkE bks), .sl 1 sides]))], 2⟩) (fun i => i ≤ names.length ∧ (f = true → ∀ j (hj : j < names.length), j < i → names[j] ≠ nm)) (fun i => names.length - i) 0 ⟨Nat.zero_le _, fun _ j _ hj => absurd hj (Nat.not_lt_zero _)⟩ ?_ ?_
 ·(refine z01 (by rfl) ?_ ?_)
  all_goals (repeat' (first | (exact trivial) | ((try conv => whnf); first | (exact trivial) | (refine And.intro ?_ ?_))))
  all_goals first
   | rfl
   | decide
 ·intro Q1 hQ1 i hx
  obtain ⟨hi, hno⟩ := hx
  by_cases hlt : i < names.length
  ·have f1 : (i : Int) < ((names.length : Nat) : Int) := by omega
   have gi := z1T hlt
   by_cases he : names[i] = nm
   ·have hmem : nm ∈ names := by rw [← he]; exact List.getElem_mem hlt
    obtain ⟨hpK, hKp⟩ := h3 hmem
    rw [he] at gi
    have f2 : nm = nm := rfl
    repeat ((try conv => whnf); first | (with_reducible first | refine z0a (fun Qs hN hE hR => ?_) | refine z08 ?_ | refine z00 (fun Qb kN kE kX kR => ?_) | refine z04 ?_ | refine z05 ?_ | refine z09 ?_ | refine z06 ?_ | refine z07 ?_ | (show W _ _ _ (.cond _ _ _) _ _; refine z03 rfl ?_) | (refine hN _ ?_; try clear hN hE hR Qs; (try (conv => arg 6; dsimp only [ovl, List.set, List.map, ren0]))) | ((first | refine hE _ _ ?_ | refine hR _ ?_); try clear hN hE hR Qs) | ((first | refine kN _ ?_ | refine kE _ ?_ | refine kX _ _ rfl ?_ | refine kR _ ?_); try clear kN kE kX kR Qb)) | (refine z0c f1 ?_) | (refine i_at gi ?_) | (refine z3k f2 ?_) | (refine ccA ([]) (cX) ?_) | (refine Exists.intro K.length (And.intro hKe ?_)) | (refine And.intro (by kernel_rfl) ?_) | (refine stpQ ?_))
    refine z1o Nat (fun k => ⟨[(1, .str nm), (2, .ptr 1 0 0), (7, .int .i64 (ix : Int)), (17, .sl 1 (strE names)), (18, .int .i64 ((names.length : Nat) : Int)), (19, .int .i64 (i : Int)), (28, .sl 1 (npE K)), (29, .int .i64 ((K.length : Nat) : Int)), (30, .int .i64 (k : Int))], [(1, some (.box [.sl 1 (strE names), .sl 1 (bkE bks), .sl 1 sides]))], 2⟩) (fun k => k ≤ K.length ∧ (f = true → k ≤ p)) (fun k => K.length - k) 0 ⟨Nat.zero_le _, fun _ => Nat.zero_le _⟩ ?_ ?_
    ·(refine z01 (by rfl) ?_ ?_)
     all_goals (repeat' (first | (exact trivial) | ((try conv => whnf); first | (exact trivial) | (refine And.intro ?_ ?_))))
     all_goals first
      | rfl
      | decide
    ·intro Q2 hQ2 k hx
     obtain ⟨hk, hkp⟩ := hx
     by_cases hkl : k < K.length
     ·have f3 : (k : Int) < ((K.length : Nat) : Int) := by omega
      have gk := z0C hkl
      by_cases hkx : K[k] = ix
      ·have hkeq := h4 k hkl hkx
       subst hkeq
       have f4 : ((ix : Nat) : Int) = ((ix : Nat) : Int) := rfl
       rw [hkx] at gk
       by_cases hkb : k < bks.length
       ·have ef : f = true := by
         cases f with
         | true => rfl
         | false => have := h2 rfl hmem; omega
        have f5 : (k : Int) < ((bks.length : Nat) : Int) := by omega
        have gb := z2T hkb
        have hsm := hbk _ (List.getElem_mem hkb)
        have cL := zcu bks[k] nm (by have := hsm.1; omega)
        have eG : z0W bks[k] nm = G := by
         rw [hG, sayV, ef]
         show _ = z0W (bks.getD k []) nm
         rw [List.getD, List.getElem?_eq_getElem hkb, Option.getD_some]
        rw [eG] at cL
        clear hno hkx hG eG h1 h2 h3 h4 hkp
        generalize lvE bks[k] = BB at *
        repeat ((try conv => whnf); first | (with_reducible first | refine z0a (fun Qs hN hE hR => ?_) | refine z08 ?_ | refine z00 (fun Qb kN kE kX kR => ?_) | refine z04 ?_ | refine z05 ?_ | refine z09 ?_ | refine z06 ?_ | refine z07 ?_ | (show W _ _ _ (.cond _ _ _) _ _; refine z03 rfl ?_) | (refine hN _ ?_; try clear hN hE hR Qs; (try (conv => arg 6; dsimp only [ovl, List.set, List.map, ren0]))) | ((first | refine hE _ _ ?_ | refine hR _ ?_); try clear hN hE hR Qs) | ((first | refine kN _ ?_ | refine kE _ ?_ | refine kX _ _ rfl ?_ | refine kR _ ?_); try clear kN kE kX kR Qb)) | (refine z0c f3 ?_) | (refine i_at gk ?_) | (refine z0c f4 ?_) | (refine Exists.intro bks.length (And.intro hbe ?_)) | (refine z0c f5 ?_) | (refine i_at gb ?_) | (refine ccA ([]) (cL) ?_) | (refine And.intro (by kernel_rfl) ?_) | (refine stpQ ?_))
        refine hQ2 _ _ ?_
        clear hQ2 Q2
        repeat ((try conv => whnf); first | (with_reducible first | refine z0a (fun Qs hN hE hR => ?_) | refine z08 ?_ | refine z00 (fun Qb kN kE kX kR => ?_) | refine z04 ?_ | refine z05 ?_ | refine z09 ?_ | refine z06 ?_ | refine z07 ?_ | (show W _ _ _ (.cond _ _ _) _ _; refine z03 rfl ?_) | (refine hN _ ?_; try clear hN hE hR Qs; (try (conv => arg 6; dsimp only [ovl, List.set, List.map, ren0]))) | ((first | refine hE _ _ ?_ | refine hR _ ?_); try clear hN hE hR Qs) | ((first | refine kN _ ?_ | refine kE _ ?_ | refine kX _ _ rfl ?_ | refine kR _ ?_); try clear kN kE kX kR Qb)) | (refine And.intro (by kernel_rfl) ?_) | (refine stpQ ?_))
        refine hQ1 _ _ ?_
        clear hQ1 Q1
        subst ef
        repeat ((try conv => whnf); first | (with_reducible first | refine z0a (fun Qs hN hE hR => ?_) | refine z08 ?_ | refine z00 (fun Qb kN kE kX kR => ?_) | refine z04 ?_ | refine z05 ?_ | refine z09 ?_ | refine z06 ?_ | refine z07 ?_ | (show W _ _ _ (.cond _ _ _) _ _; refine z03 rfl ?_) | (refine hN _ ?_; try clear hN hE hR Qs; (try (conv => arg 6; dsimp only [ovl, List.set, List.map, ren0]))) | ((first | refine hE _ _ ?_ | refine hR _ ?_); try clear hN hE hR Qs) | ((first | refine kN _ ?_ | refine kE _ ?_ | refine kX _ _ rfl ?_ | refine kR _ ?_); try clear kN kE kX kR Qb)) | (refine And.intro (by kernel_rfl) ?_) | (refine stpQ ?_))
        (refine z02 (by rfl) ?_ ?_ (by rfl)) <;> (repeat' (first | (exact eqA) | (refine And.intro ?_ ?_) | ((fail_if_success (with_reducible (show _ = _))); (show _ = _)))) <;> rfl
       ·have f5 : ¬ (k : Int) < ((bks.length : Nat) : Int) := by omega
        have hkp2 : f = true → k + 1 ≤ k := fun e => absurd (h1 e).2 hkb
        clear hkx h1 h2 h3 h4 hG
        repeat ((try conv => whnf); first | (with_reducible first | refine z0a (fun Qs hN hE hR => ?_) | refine z08 ?_ | refine z00 (fun Qb kN kE kX kR => ?_) | refine z04 ?_ | refine z05 ?_ | refine z09 ?_ | refine z06 ?_ | refine z07 ?_ | (show W _ _ _ (.cond _ _ _) _ _; refine z03 rfl ?_) | (refine hN _ ?_; try clear hN hE hR Qs; (try (conv => arg 6; dsimp only [ovl, List.set, List.map, ren0]))) | ((first | refine hE _ _ ?_ | refine hR _ ?_); try clear hN hE hR Qs) | ((first | refine kN _ ?_ | refine kE _ ?_ | refine kX _ _ rfl ?_ | refine kR _ ?_); try clear kN kE kX kR Qb)) | (refine z0c f3 ?_) | (refine i_at gk ?_) | (refine z0c f4 ?_) | (refine Exists.intro bks.length (And.intro hbe ?_)) | (refine z0d f5 ?_) | (refine And.intro (by kernel_rfl) ?_) | (refine stpQ ?_))
        refine ⟨k + 1, ⟨hkl, hkp2⟩, by omega, ?_⟩
        (refine z01 (by rfl) ?_ ?_) <;> (repeat' (first | (exact eqA) | (refine And.intro ?_ ?_) | ((fail_if_success (with_reducible (show _ = _))); (show _ = _)))) <;> rfl
      ·have f4 : ¬ ((K[k] : Nat) : Int) = ((ix : Nat) : Int) := by omega
       have hkp2 : f = true → k + 1 ≤ p := fun e => by
        have h5 := hkp e
        rcases Nat.lt_or_ge k p with h6 | h6
        ·exact h6
        ·obtain rfl : k = p := by omega
         exact absurd hKp hkx
       clear h1 h2 h3 h4 hG hkx
       generalize K[k] = q at *
       repeat ((try conv => whnf); first | (with_reducible first | refine z0a (fun Qs hN hE hR => ?_) | refine z08 ?_ | refine z00 (fun Qb kN kE kX kR => ?_) | refine z04 ?_ | refine z05 ?_ | refine z09 ?_ | refine z06 ?_ | refine z07 ?_ | (show W _ _ _ (.cond _ _ _) _ _; refine z03 rfl ?_) | (refine hN _ ?_; try clear hN hE hR Qs; (try (conv => arg 6; dsimp only [ovl, List.set, List.map, ren0]))) | ((first | refine hE _ _ ?_ | refine hR _ ?_); try clear hN hE hR Qs) | ((first | refine kN _ ?_ | refine kE _ ?_ | refine kX _ _ rfl ?_ | refine kR _ ?_); try clear kN kE kX kR Qb)) | (refine z0c f3 ?_) | (refine i_at gk ?_) | (refine z0d f4 ?_) | (refine And.intro (by kernel_rfl) ?_) | (refine stpQ ?_))
       refine ⟨k + 1, ⟨hkl, hkp2⟩, by omega, ?_⟩
       (refine z01 (by rfl) ?_ ?_) <;> (repeat' (first | (exact eqA) | (refine And.intro ?_ ?_) | ((fail_if_success (with_reducible (show _ = _))); (show _ = _)))) <;> rfl
     ·have f3 : ¬ (k : Int) < ((K.length : Nat) : Int) := by omega
      have ef : f = false := by
       cases f with
       | false => rfl
       | true => have := hkp rfl; omega
      have hno2 : f = true → ∀ j (hj : j < names.length), j < i + 1 → names[j] ≠ nm := fun e => by rw [ef] at e; cases e
      clear h1 h2 h3 h4 hG hno ef
      repeat ((try conv => whnf); first | (with_reducible first | refine z0a (fun Qs hN hE hR => ?_) | refine z08 ?_ | refine z00 (fun Qb kN kE kX kR => ?_) | refine z04 ?_ | refine z05 ?_ | refine z09 ?_ | refine z06 ?_ | refine z07 ?_ | (show W _ _ _ (.cond _ _ _) _ _; refine z03 rfl ?_) | (refine hN _ ?_; try clear hN hE hR Qs; (try (conv => arg 6; dsimp only [ovl, List.set, List.map, ren0]))) | ((first | refine hE _ _ ?_ | refine hR _ ?_); try clear hN hE hR Qs) | ((first | refine kN _ ?_ | refine kE _ ?_ | refine kX _ _ rfl ?_ | refine kR _ ?_); try clear kN kE kX kR Qb)) | (refine z0d f3 ?_) | (refine stpQ ?_))
      refine hQ2 _ _ ?_
      clear hQ2 Q2
      repeat ((try conv => whnf); first | (with_reducible first | refine z0a (fun Qs hN hE hR => ?_) | refine z08 ?_ | refine z00 (fun Qb kN kE kX kR => ?_) | refine z04 ?_ | refine z05 ?_ | refine z09 ?_ | refine z06 ?_ | refine z07 ?_ | (show W _ _ _ (.cond _ _ _) _ _; refine z03 rfl ?_) | (refine hN _ ?_; try clear hN hE hR Qs; (try (conv => arg 6; dsimp only [ovl, List.set, List.map, ren0]))) | ((first | refine hE _ _ ?_ | refine hR _ ?_); try clear hN hE hR Qs) | ((first | refine kN _ ?_ | refine kE _ ?_ | refine kX _ _ rfl ?_ | refine kR _ ?_); try clear kN kE kX kR Qb)) | (refine And.intro (by kernel_rfl) ?_) | (refine stpQ ?_))
      refine ⟨i + 1, ⟨hlt, hno2⟩, by omega, ?_⟩
      (refine z01 (by rfl) ?_ ?_) <;> (repeat' (first | (exact eqA) | (refine And.intro ?_ ?_) | ((fail_if_success (with_reducible (show _ = _))); (show _ = _)))) <;> rfl
   ·have hno2 : f = true → ∀ j (hj : j < names.length), j < i + 1 → names[j] ≠ nm := fun e j hj hji => by
     by_cases hjx : j < i
     ·exact hno e j hj hjx
     ·obtain rfl : j = i := by omega
      exact he
    have f2 : ¬ names[i] = nm := he
    clear hno he h1 h2 h3 h4 hG
    generalize names[i] = y at *
    repeat ((try conv => whnf); first | (with_reducible first | refine z0a (fun Qs hN hE hR => ?_) | refine z08 ?_ | refine z00 (fun Qb kN kE kX kR => ?_) | refine z04 ?_ | refine z05 ?_ | refine z09 ?_ | refine z06 ?_ | refine z07 ?_ | (show W _ _ _ (.cond _ _ _) _ _; refine z03 rfl ?_) | (refine hN _ ?_; try clear hN hE hR Qs; (try (conv => arg 6; dsimp only [ovl, List.set, List.map, ren0]))) | ((first | refine hE _ _ ?_ | refine hR _ ?_); try clear hN hE hR Qs) | ((first | refine kN _ ?_ | refine kE _ ?_ | refine kX _ _ rfl ?_ | refine kR _ ?_); try clear kN kE kX kR Qb)) | (refine z0c f1 ?_) | (refine i_at gi ?_) | (refine z3j f2 ?_) | (refine And.intro (by kernel_rfl) ?_) | (refine stpQ ?_))
    refine ⟨i + 1, ⟨hlt, hno2⟩, by omega, ?_⟩
    (refine z01 (by rfl) ?_ ?_) <;> (repeat' (first | (exact eqA) | (refine And.intro ?_ ?_) | ((fail_if_success (with_reducible (show _ = _))); (show _ = _)))) <;> rfl
  ·have hie : i = names.length := by omega
   subst hie
   have f1 : ¬ ((names.length : Nat) : Int) < ((names.length : Nat) : Int) := by omega
   have ef : f = false := by
    cases f with
    | false => rfl
    | true =>
      obtain ⟨j, hj, e⟩ := List.getElem_of_mem (h1 rfl).1
      exact absurd e (hno rfl j hj hj)
   have eG : G = none := by rw [hG, ef]; rfl
   clear hno h1 h2 h3 h4 hG
   repeat ((try conv => whnf); first | (with_reducible first | refine z0a (fun Qs hN hE hR => ?_) | refine z08 ?_ | refine z00 (fun Qb kN kE kX kR => ?_) | refine z04 ?_ | refine z05 ?_ | refine z09 ?_ | refine z06 ?_ | refine z07 ?_ | (show W _ _ _ (.cond _ _ _) _ _; refine z03 rfl ?_) | (refine hN _ ?_; try clear hN hE hR Qs; (try (conv => arg 6; dsimp only [ovl, List.set, List.map, ren0]))) | ((first | refine hE _ _ ?_ | refine hR _ ?_); try clear hN hE hR Qs) | ((first | refine kN _ ?_ | refine kE _ ?_ | refine kX _ _ rfl ?_ | refine kR _ ?_); try clear kN kE kX kR Qb)) | (refine z0d f1 ?_) | (refine stpQ ?_))
   refine hQ1 _ _ ?_
   clear hQ1 Q1
   subst ef
   subst eG
   repeat ((try conv => whnf); first | (with_reducible first | refine z0a (fun Qs hN hE hR => ?_) | refine z08 ?_ | refine z00 (fun Qb kN kE kX kR => ?_) | refine z04 ?_ | refine z05 ?_ | refine z09 ?_ | refine z06 ?_ | refine z07 ?_ | (show W _ _ _ (.cond _ _ _) _ _; refine z03 rfl ?_) | (refine hN _ ?_; try clear hN hE hR Qs; (try (conv => arg 6; dsimp only [ovl, List.set, List.map, ren0]))) | ((first | refine hE _ _ ?_ | refine hR _ ?_); try clear hN hE hR Qs) | ((first | refine kN _ ?_ | refine kE _ ?_ | refine kX _ _ rfl ?_ | refine kR _ ?_); try clear kN kE kX kR Qb)) | (refine And.intro (by kernel_rfl) ?_) | (refine stpQ ?_))
   (refine z02 (by rfl) ?_ ?_ (by rfl)) <;> (repeat' (first | (exact eqA) | (refine And.intro ?_ ?_) | ((fail_if_success (with_reducible (show _ = _))); (show _ = _)))) <;> rfl
theorem z9t (names : List Bs) (bks : List (List Lf)) (sides : List (List T)) (nm : Bs) (hn : names.length ≤ 1000) (hl : ∀ s ∈ names, (s.length : Int) ≤ 100000000) (hb : bks.length ≤ 1000) (hbk : ∀ b ∈ bks, Sml b) (hln : (nm.length : Int) ≤ 1000000) {p : Nat} {f : Bool} (hS : SayP names (ixsN names) bks (ixB nm) nm p f) : CT Tryz.prog 29 [] [.agg [.sl 1 (strE names), .sl 1 (bkE bks), .sl 1 sides], .str nm] (.tup [.str ((sayV bks p nm f).getD []), .bool (sayV bks p nm f).isSome, .bool f]) [] := by
 have cI := z31 nm (by omega)
 have cX := z2f names (by omega) hl
 rw [z5s] at cX
 have hne := z0h names
 have hbe := z2c bks
 have hKn := z1Y names
 generalize ixsN names = K at *
 generalize ixB nm = ix at *
 have hKe := z1d K
 obtain ⟨h1, h2, h3, h4⟩ := hS
 obtain ⟨G, hG⟩ : ∃ G, G = sayV bks p nm f := ⟨_, rfl⟩
 rw [← hG]
 obtain ⟨B, hB⟩ : ∃ B : Bool, B = decide (nm ∈ names) := ⟨_, rfl⟩
 refine z0b z0p 1 rfl Tryz.func29 rfl rfl rfl ?_
 conv => arg 6; whnf
 repeat ((try conv => whnf); first | (with_reducible first | refine z0a (fun Qs hN hE hR => ?_) | refine z08 ?_ | refine z00 (fun Qb kN kE kX kR => ?_) | refine z04 ?_ | refine z05 ?_ | refine z09 ?_ | refine z06 ?_ | refine z07 ?_ | (show W _ _ _ (.cond _ _ _) _ _; refine z03 rfl ?_) | (refine hN _ ?_; try clear hN hE hR Qs; (try (conv => arg 6; dsimp only [ovl, List.set, List.map, ren0]))) | ((first | refine hE _ _ ?_ | refine hR _ ?_); try clear hN hE hR Qs) | ((first | refine kN _ ?_ | refine kE _ ?_ | refine kX _ _ rfl ?_ | refine kR _ ?_); try clear kN kE kX kR Qb)) | (refine And.intro (by kernel_rfl) ?_) | (refine stpQ ?_))
 refine z0g 0 ⟨[(1, .str nm), (2, .ptr 1 0 0), (7, .bool B)], [(1, some (.box [.sl 1 (strE names), .sl 1 (bkE bks), .sl 1 sides]))], 2⟩ (Nat × Bool) (fun x => ⟨[(1, .str nm), (2, .ptr 1 0 0), (7, .bool x.2), (8, .int .i64 (x.1 : Int))], [(1, some (.box [.sl 1 (strE names), .sl 1 (bkE bks), .sl 1 sides]))], 2⟩) (fun x => x.1 ≤ names.length ∧ x.2 = decide (nm ∈ names.take x.1)) (fun x => names.length - x.1) (0, false) ⟨Nat.zero_le _, by simp⟩ ?_ ?_ ?_
 ·(refine z01 (by rfl) ?_ ?_)
  all_goals (repeat' (first | (exact trivial) | ((try conv => whnf); first | (exact trivial) | (refine And.intro ?_ ?_))))
  all_goals first
   | rfl
   | decide
 ·intro x hx
  obtain ⟨i, b⟩ := x
  obtain ⟨hi, hb2⟩ := hx
  dsimp only at hi hb2 ⊢
  by_cases hlt : i < names.length
  ·have f1 : (i : Int) < ((names.length : Nat) : Int) := by omega
   have gi := z1T hlt
   have hn2 : decide (nm ∈ names.take (i + 1)) = (decide (nm ∈ names.take i) || decide (names[i] = nm)) := by
    rw [List.take_succ_eq_append_getElem hlt]
    simp only [List.mem_append, List.mem_singleton, Bool.decide_or]
    congr 1
    exact decide_eq_decide.2 ⟨fun h => h.symm, fun h => h.symm⟩
   rw [← hb2] at hn2
   cases b with
   | true =>
     have h5 : true = decide (nm ∈ names.take (i + 1)) := by rw [hn2]; rfl
     clear hn2 hb2 h1 h2 h3 h4 hG hB
     repeat ((try conv => whnf); first | (with_reducible first | refine z0a (fun Qs hN hE hR => ?_) | refine z08 ?_ | refine z00 (fun Qb kN kE kX kR => ?_) | refine z04 ?_ | refine z05 ?_ | refine z09 ?_ | refine z06 ?_ | refine z07 ?_ | (show W _ _ _ (.cond _ _ _) _ _; refine z03 rfl ?_) | (refine hN _ ?_; try clear hN hE hR Qs; (try (conv => arg 6; dsimp only [ovl, List.set, List.map, ren0]))) | ((first | refine hE _ _ ?_ | refine hR _ ?_); try clear hN hE hR Qs) | ((first | refine kN _ ?_ | refine kE _ ?_ | refine kX _ _ rfl ?_ | refine kR _ ?_); try clear kN kE kX kR Qb)) | (refine Exists.intro names.length (And.intro hne ?_)) | (refine z0c f1 ?_) | (refine i_at gi ?_) | (refine And.intro (by kernel_rfl) ?_) | (refine stpQ ?_))
     refine ⟨(i + 1, true), ⟨hlt, h5⟩, (by show names.length - (i + 1) < names.length - i; omega), ?_⟩
     (refine z01 (by rfl) ?_ ?_) <;> (repeat' (first | (exact eqA) | (refine And.intro ?_ ?_) | ((fail_if_success (with_reducible (show _ = _))); (show _ = _)))) <;> rfl
   | false =>
     have h5 : decide (names[i] = nm) = decide (nm ∈ names.take (i + 1)) := by rw [hn2]; rfl
     clear hn2 hb2 h1 h2 h3 h4 hG hB
     generalize names[i] = y at *
     repeat ((try conv => whnf); first | (with_reducible first | refine z0a (fun Qs hN hE hR => ?_) | refine z08 ?_ | refine z00 (fun Qb kN kE kX kR => ?_) | refine z04 ?_ | refine z05 ?_ | refine z09 ?_ | refine z06 ?_ | refine z07 ?_ | (show W _ _ _ (.cond _ _ _) _ _; refine z03 rfl ?_) | (refine hN _ ?_; try clear hN hE hR Qs; (try (conv => arg 6; dsimp only [ovl, List.set, List.map, ren0]))) | ((first | refine hE _ _ ?_ | refine hR _ ?_); try clear hN hE hR Qs) | ((first | refine kN _ ?_ | refine kE _ ?_ | refine kX _ _ rfl ?_ | refine kR _ ?_); try clear kN kE kX kR Qb)) | (refine Exists.intro names.length (And.intro hne ?_)) | (refine z0c f1 ?_) | (refine i_at gi ?_) | (refine And.intro (by kernel_rfl) ?_) | (refine stpQ ?_))
     refine ⟨(i + 1, decide (y = nm)), ⟨hlt, h5⟩, (by show names.length - (i + 1) < names.length - i; omega), ?_⟩
     (refine z01 (by rfl) ?_ ?_) <;> (repeat' (first | (exact eqA) | (refine And.intro ?_ ?_) | ((fail_if_success (with_reducible (show _ = _))); (show _ = _)))) <;> rfl
  ·have hie : i = names.length := by omega
   subst hie
   have f1 : ¬ ((names.length : Nat) : Int) < ((names.length : Nat) : Int) := by omega
   have h5 : b = B := by rw [hb2, hB, List.take_length]
   subst h5
   clear hb2 h1 h2 h3 h4 hG hB
   repeat ((try conv => whnf); first | (with_reducible first | refine z0a (fun Qs hN hE hR => ?_) | refine z08 ?_ | refine z00 (fun Qb kN kE kX kR => ?_) | refine z04 ?_ | refine z05 ?_ | refine z09 ?_ | refine z06 ?_ | refine z07 ?_ | (show W _ _ _ (.cond _ _ _) _ _; refine z03 rfl ?_) | (refine hN _ ?_; try clear hN hE hR Qs; (try (conv => arg 6; dsimp only [ovl, List.set, List.map, ren0]))) | ((first | refine hE _ _ ?_ | refine hR _ ?_); try clear hN hE hR Qs) | ((first | refine kN _ ?_ | refine kE _ ?_ | refine kX _ _ rfl ?_ | refine kR _ ?_); try clear kN kE kX kR Qb)) | (refine Exists.intro names.length (And.intro hne ?_)) | (refine z0d f1 ?_) | (refine And.intro (by kernel_rfl) ?_) | (refine stpQ ?_))
   (refine z01 (by rfl) ?_ ?_) <;> (repeat' (first | (exact eqA) | (refine And.intro ?_ ?_) | ((fail_if_success (with_reducible (show _ = _))); (show _ = _)))) <;> rfl
 ·repeat ((try conv => whnf); first | (with_reducible first | refine z0a (fun Qs hN hE hR => ?_) | refine z08 ?_ | refine z00 (fun Qb kN kE kX kR => ?_) | refine z04 ?_ | refine z05 ?_ | refine z09 ?_ | refine z06 ?_ | refine z07 ?_ | (show W _ _ _ (.cond _ _ _) _ _; refine z03 rfl ?_) | (refine hN _ ?_; try clear hN hE hR Qs; (try (conv => arg 6; dsimp only [ovl, List.set, List.map, ren0]))) | ((first | refine hE _ _ ?_ | refine hR _ ?_); try clear hN hE hR Qs) | ((first | refine kN _ ?_ | refine kE _ ?_ | refine kX _ _ rfl ?_ | refine kR _ ?_); try clear kN kE kX kR Qb)) | (refine ccA ([]) (cX) ?_) | (refine And.intro (by kernel_rfl) ?_) | (refine stpQ ?_))
  refine z1o Nat (fun k => ⟨[(1, .str nm), (2, .ptr 1 0 0), (7, .bool B), (9, .sl 1 (npE K)), (10, .int .i64 (k : Int))], [(1, some (.box [.sl 1 (strE names), .sl 1 (bkE bks), .sl 1 sides]))], 2⟩) (fun k => k ≤ K.length ∧ (f = true → k ≤ p)) (fun k => K.length - k) 0 ⟨Nat.zero_le _, fun _ => Nat.zero_le _⟩ ?_ ?_
  ·(refine z01 (by rfl) ?_ ?_)
   all_goals (repeat' (first | (exact trivial) | ((try conv => whnf); first | (exact trivial) | (refine And.intro ?_ ?_))))
   all_goals first
    | rfl
    | decide
  ·intro Q1 hQ1 k hx
   obtain ⟨hk, hkp⟩ := hx
   by_cases hgo : k < K.length ∧ k < bks.length ∧ B = true
   ·obtain ⟨hkl, hkb, eB⟩ := hgo
    have hmem : nm ∈ names := of_decide_eq_true (by rw [← hB]; exact eB)
    have f1 : (k : Int) < ((K.length : Nat) : Int) := by omega
    have f2 : (k : Int) < ((bks.length : Nat) : Int) := by omega
    have gk := z0C hkl
    subst eB
    by_cases hkx : K[k] = ix
    ·have hkeq := h4 k hkl hkx
     subst hkeq
     have ef : f = true := by
      cases f with
      | true => rfl
      | false => have := h2 rfl hmem; omega
     have f4 : ((ix : Nat) : Int) = ((ix : Nat) : Int) := rfl
     rw [hkx] at gk
     have gb := z2T hkb
     have hsm := hbk _ (List.getElem_mem hkb)
     have cL := zbc bks[k] nm (by have := hsm.1; omega)
     have eG : z0W bks[k] nm = G := by
      rw [hG, sayV, ef]
      show _ = z0W (bks.getD k []) nm
      rw [List.getD, List.getElem?_eq_getElem hkb, Option.getD_some]
     rw [eG] at cL
     clear hkx hG eG h1 h2 h3 h4 hkp hB
     generalize lvE bks[k] = BB at *
     repeat ((try conv => whnf); first | (with_reducible first | refine z0a (fun Qs hN hE hR => ?_) | refine z08 ?_ | refine z00 (fun Qb kN kE kX kR => ?_) | refine z04 ?_ | refine z05 ?_ | refine z09 ?_ | refine z06 ?_ | refine z07 ?_ | (show W _ _ _ (.cond _ _ _) _ _; refine z03 rfl ?_) | (refine hN _ ?_; try clear hN hE hR Qs; (try (conv => arg 6; dsimp only [ovl, List.set, List.map, ren0]))) | ((first | refine hE _ _ ?_ | refine hR _ ?_); try clear hN hE hR Qs) | ((first | refine kN _ ?_ | refine kE _ ?_ | refine kX _ _ rfl ?_ | refine kR _ ?_); try clear kN kE kX kR Qb)) | (refine Exists.intro K.length (And.intro hKe ?_)) | (refine Exists.intro bks.length (And.intro hbe ?_)) | (refine z0c f1 ?_) | (refine z0c f2 ?_) | (refine i_at gk ?_) | (refine ccA ([]) (cI) ?_) | (refine z0c f4 ?_) | (refine i_at gb ?_) | (refine ccA ([]) (cL) ?_) | (refine And.intro (by kernel_rfl) ?_) | (refine stpQ ?_))
     refine hQ1 _ _ ?_
     clear hQ1 Q1
     subst ef
     repeat ((try conv => whnf); first | (with_reducible first | refine z0a (fun Qs hN hE hR => ?_) | refine z08 ?_ | refine z00 (fun Qb kN kE kX kR => ?_) | refine z04 ?_ | refine z05 ?_ | refine z09 ?_ | refine z06 ?_ | refine z07 ?_ | (show W _ _ _ (.cond _ _ _) _ _; refine z03 rfl ?_) | (refine hN _ ?_; try clear hN hE hR Qs; (try (conv => arg 6; dsimp only [ovl, List.set, List.map, ren0]))) | ((first | refine hE _ _ ?_ | refine hR _ ?_); try clear hN hE hR Qs) | ((first | refine kN _ ?_ | refine kE _ ?_ | refine kX _ _ rfl ?_ | refine kR _ ?_); try clear kN kE kX kR Qb)) | (refine And.intro (by kernel_rfl) ?_) | (refine stpQ ?_))
     (refine z02 (by rfl) ?_ ?_ (by rfl)) <;> (repeat' (first | (exact eqA) | (refine And.intro ?_ ?_) | ((fail_if_success (with_reducible (show _ = _))); (show _ = _)))) <;> rfl
    ·have f4 : ¬ ((K[k] : Nat) : Int) = ((ix : Nat) : Int) := by omega
     have hkp2 : f = true → k + 1 ≤ p := fun e => by
      have h5 := hkp e
      rcases Nat.lt_or_ge k p with h6 | h6
      ·exact h6
      ·obtain rfl : k = p := by omega
       obtain ⟨hpK, hKp⟩ := h3 hmem
       exact absurd hKp hkx
     clear hkx hG h1 h2 h3 h4 hB
     generalize K[k] = q at *
     repeat ((try conv => whnf); first | (with_reducible first | refine z0a (fun Qs hN hE hR => ?_) | refine z08 ?_ | refine z00 (fun Qb kN kE kX kR => ?_) | refine z04 ?_ | refine z05 ?_ | refine z09 ?_ | refine z06 ?_ | refine z07 ?_ | (show W _ _ _ (.cond _ _ _) _ _; refine z03 rfl ?_) | (refine hN _ ?_; try clear hN hE hR Qs; (try (conv => arg 6; dsimp only [ovl, List.set, List.map, ren0]))) | ((first | refine hE _ _ ?_ | refine hR _ ?_); try clear hN hE hR Qs) | ((first | refine kN _ ?_ | refine kE _ ?_ | refine kX _ _ rfl ?_ | refine kR _ ?_); try clear kN kE kX kR Qb)) | (refine Exists.intro K.length (And.intro hKe ?_)) | (refine Exists.intro bks.length (And.intro hbe ?_)) | (refine z0c f1 ?_) | (refine z0c f2 ?_) | (refine i_at gk ?_) | (refine ccA ([]) (cI) ?_) | (refine z0d f4 ?_) | (refine And.intro (by kernel_rfl) ?_) | (refine stpQ ?_))
     refine ⟨k + 1, ⟨hkl, hkp2⟩, by omega, ?_⟩
     (refine z01 (by rfl) ?_ ?_) <;> (repeat' (first | (exact eqA) | (refine And.intro ?_ ?_) | ((fail_if_success (with_reducible (show _ = _))); (show _ = _)))) <;> rfl
   ·have ef : f = false := by
     cases f with
     | false => rfl
     | true =>
       obtain ⟨h5, h6⟩ := h1 rfl
       obtain ⟨hpK, hKp⟩ := h3 h5
       have h7 := hkp rfl
       exact absurd ⟨by omega, by omega, by rw [hB]; exact decide_eq_true h5⟩ hgo
    have eG : G = none := by rw [hG, ef]; rfl
    clear hG h1 h2 h3 h4 hkp hB
    by_cases hkl : k < K.length
    ·have f1 : (k : Int) < ((K.length : Nat) : Int) := by omega
     by_cases hkb : k < bks.length
     ·have f2 : (k : Int) < ((bks.length : Nat) : Int) := by omega
      have eB : B = false := by
       cases B with
       | false => rfl
       | true => exact absurd ⟨hkl, hkb, rfl⟩ hgo
      subst eB
      repeat ((try conv => whnf); first | (with_reducible first | refine z0a (fun Qs hN hE hR => ?_) | refine z08 ?_ | refine z00 (fun Qb kN kE kX kR => ?_) | refine z04 ?_ | refine z05 ?_ | refine z09 ?_ | refine z06 ?_ | refine z07 ?_ | (show W _ _ _ (.cond _ _ _) _ _; refine z03 rfl ?_) | (refine hN _ ?_; try clear hN hE hR Qs; (try (conv => arg 6; dsimp only [ovl, List.set, List.map, ren0]))) | ((first | refine hE _ _ ?_ | refine hR _ ?_); try clear hN hE hR Qs) | ((first | refine kN _ ?_ | refine kE _ ?_ | refine kX _ _ rfl ?_ | refine kR _ ?_); try clear kN kE kX kR Qb)) | (refine Exists.intro K.length (And.intro hKe ?_)) | (refine Exists.intro bks.length (And.intro hbe ?_)) | (refine z0c f1 ?_) | (refine z0d f1 ?_) | (refine z0c f2 ?_) | (refine z0d f2 ?_) | (refine And.intro (by kernel_rfl) ?_) | (refine stpQ ?_))
      refine hQ1 _ _ ?_
      clear hQ1 Q1
      subst ef
      subst eG
      repeat ((try conv => whnf); first | (with_reducible first | refine z0a (fun Qs hN hE hR => ?_) | refine z08 ?_ | refine z00 (fun Qb kN kE kX kR => ?_) | refine z04 ?_ | refine z05 ?_ | refine z09 ?_ | refine z06 ?_ | refine z07 ?_ | (show W _ _ _ (.cond _ _ _) _ _; refine z03 rfl ?_) | (refine hN _ ?_; try clear hN hE hR Qs; (try (conv => arg 6; dsimp only [ovl, List.set, List.map, ren0]))) | ((first | refine hE _ _ ?_ | refine hR _ ?_); try clear hN hE hR Qs) | ((first | refine kN _ ?_ | refine kE _ ?_ | refine kX _ _ rfl ?_ | refine kR _ ?_); try clear kN kE kX kR Qb)) | (refine And.intro (by kernel_rfl) ?_) | (refine stpQ ?_))
      (refine z02 (by rfl) ?_ ?_ (by rfl)) <;> (repeat' (first | (exact eqA) | (refine And.intro ?_ ?_) | ((fail_if_success (with_reducible (show _ = _))); (show _ = _)))) <;> rfl
     ·have f2 : ¬ (k : Int) < ((bks.length : Nat) : Int) := by omega
      repeat ((try conv => whnf); first | (with_reducible first | refine z0a (fun Qs hN hE hR => ?_) | refine z08 ?_ | refine z00 (fun Qb kN kE kX kR => ?_) | refine z04 ?_ | refine z05 ?_ | refine z09 ?_ | refine z06 ?_ | refine z07 ?_ | (show W _ _ _ (.cond _ _ _) _ _; refine z03 rfl ?_) | (refine hN _ ?_; try clear hN hE hR Qs; (try (conv => arg 6; dsimp only [ovl, List.set, List.map, ren0]))) | ((first | refine hE _ _ ?_ | refine hR _ ?_); try clear hN hE hR Qs) | ((first | refine kN _ ?_ | refine kE _ ?_ | refine kX _ _ rfl ?_ | refine kR _ ?_); try clear kN kE kX kR Qb)) | (refine Exists.intro K.length (And.intro hKe ?_)) | (refine Exists.intro bks.length (And.intro hbe ?_)) | (refine z0c f1 ?_) | (refine z0d f1 ?_) | (refine z0c f2 ?_) | (refine z0d f2 ?_) | (refine And.intro (by kernel_rfl) ?_) | (refine stpQ ?_))
      refine hQ1 _ _ ?_
      clear hQ1 Q1
      subst ef
      subst eG
      repeat ((try conv => whnf); first | (with_reducible first | refine z0a (fun Qs hN hE hR => ?_) | refine z08 ?_ | refine z00 (fun Qb kN kE kX kR => ?_) | refine z04 ?_ | refine z05 ?_ | refine z09 ?_ | refine z06 ?_ | refine z07 ?_ | (show W _ _ _ (.cond _ _ _) _ _; refine z03 rfl ?_) | (refine hN _ ?_; try clear hN hE hR Qs; (try (conv => arg 6; dsimp only [ovl, List.set, List.map, ren0]))) | ((first | refine hE _ _ ?_ | refine hR _ ?_); try clear hN hE hR Qs) | ((first | refine kN _ ?_ | refine kE _ ?_ | refine kX _ _ rfl ?_ | refine kR _ ?_); try clear kN kE kX kR Qb)) | (refine And.intro (by kernel_rfl) ?_) | (refine stpQ ?_))
      (refine z02 (by rfl) ?_ ?_ (by rfl)) <;> (repeat' (first | (exact eqA) | (refine And.intro ?_ ?_) | ((fail_if_success (with_reducible (show _ = _))); (show _ = _)))) <;> rfl
    ·have f1 : ¬ (k : Int) < ((K.length : Nat) : Int) := by omega
     repeat ((try conv => whnf); first | (with_reducible first | refine z0a (fun Qs hN hE hR => ?_) | refine z08 ?_ | refine z00 (fun Qb kN kE kX kR => ?_) | refine z04 ?_ | refine z05 ?_ | refine z09 ?_ | refine z06 ?_ | refine z07 ?_ | (show W _ _ _ (.cond _ _ _) _ _; refine z03 rfl ?_) | (refine hN _ ?_; try clear hN hE hR Qs; (try (conv => arg 6; dsimp only [ovl, List.set, List.map, ren0]))) | ((first | refine hE _ _ ?_ | refine hR _ ?_); try clear hN hE hR Qs) | ((first | refine kN _ ?_ | refine kE _ ?_ | refine kX _ _ rfl ?_ | refine kR _ ?_); try clear kN kE kX kR Qb)) | (refine Exists.intro K.length (And.intro hKe ?_)) | (refine Exists.intro bks.length (And.intro hbe ?_)) | (refine z0c f1 ?_) | (refine z0d f1 ?_) | (refine z0c f2 ?_) | (refine z0d f2 ?_) | (refine And.intro (by kernel_rfl) ?_) | (refine stpQ ?_))
     refine hQ1 _ _ ?_
     clear hQ1 Q1
     subst ef
     subst eG
     repeat ((try conv => whnf); first | (with_reducible first | refine z0a (fun Qs hN hE hR => ?_) | refine z08 ?_ | refine z00 (fun Qb kN kE kX kR => ?_) | refine z04 ?_ | refine z05 ?_ | refine z09 ?_ | refine z06 ?_ | refine z07 ?_ | (show W _ _ _ (.cond _ _ _) _ _; refine z03 rfl ?_) | (refine hN _ ?_; try clear hN hE hR Qs; (try (conv => arg 6; dsimp only [ovl, List.set, List.map, ren0]))) | ((first | refine hE _ _ ?_ | refine hR _ ?_); try clear hN hE hR Qs) | ((first | refine kN _ ?_ | refine kE _ ?_ | refine kX _ _ rfl ?_ | refine kR _ ?_); try clear kN kE kX kR Qb)) | (refine And.intro (by kernel_rfl) ?_) | (refine stpQ ?_))
     (refine z02 (by rfl) ?_ ?_ (by rfl)) <;> (repeat' (first | (exact eqA) | (refine And.intro ?_ ?_) | ((fail_if_success (with_reducible (show _ = _))); (show _ = _)))) <;> rfl
end
end Go.Proofs.YtfjbinbpgdiafaaGreatDoor
