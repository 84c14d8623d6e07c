/- Functions by content: what makes the shards of a house right. -/
import Derived.Test.YthcfalipgnpelaaGreatDoorVd
import Derived.Test.YthcfalipgnpelaaGreatDoorSzd
namespace Go.Proofs.YthcfalipgnpelaaGreatDoor
set_option linter.unusedVariables false
set_option linter.unusedSimpArgs false
set_option linter.unusedSectionVars false
open Go.RowKit Pl
def cI (e : List T) (j : Nat) : Int := match e[j]? with
 | some (.int _ n) => n
 | _ => 0
def shB (n : Nat) (K : Int) (tr : List Int) (f : Nat → Bool) (z : List (List T)) (k : Nat) : Bool :=
 decide (cI (z.getD k []) 0 = (k : Int)) && (decide (cI (z.getD k []) 1 = K) && (f k && (decide (cI (z.getD k []) 4 = (n : Int)) || (decide (cI (z.getD k []) 4 = (n : Int) - 1) && (decide (tr.length = n) && (decide (cI (z.getD k []) 8 = (n : Int)) && decide (cI (z.getD k []) 9 = isAt tr (n - 1))))))))
def allB (p : Nat → Bool) (n : Nat) : Bool := (List.range n).all p
theorem z2H {p : Nat → Bool} {n k : Nat} (h : k < n) (hp : p k = false) : allB p n = false := by
 unfold allB
 rw [List.all_eq_false]
 exact ⟨k, List.mem_range.2 h, by simp [hp]⟩
theorem z1X {p : Nat → Bool} {n : Nat} (h : ∀ k, k < n → p k = true) : allB p n = true := List.all_eq_true.2 fun k hk => h k (List.mem_range.1 hk)
def zki (z : List (List T)) (f : Nat → Bool) (k : Nat) : Prop := ∃ (n0 n1 : Int) (b2 : Bool) (z3 : List (List T)) (n4 : Int) (z5 z6 z7 : List (List T)) (n8 n9 n10 : Int),
    z[k]? = some [.int .i64 n0, .int .i64 n1, .bool b2, .sl 3 z3, .int .i64 n4, .sl 1 z5, .sl 1 z6, .sl 3 z7, .int .i64 n8, .int .i64 n9, .int .i64 n10] ∧
    CT Tryz.prog 123 [] [.agg [.int .i64 n0, .int .i64 n1, .bool b2, .sl 3 z3, .int .i64 n4, .sl 1 z5, .sl 1 z6, .sl 3 z7, .int .i64 n8, .int .i64 n9, .int .i64 n10]] (.bool (f k)) [] ∧
    CT Tryz.prog 131 [] [.agg [.int .i64 n0, .int .i64 n1, .bool b2, .sl 3 z3, .int .i64 n4, .sl 1 z5, .sl 1 z6, .sl 3 z7, .int .i64 n8, .int .i64 n9, .int .i64 n10]] (.bool (f k)) [] ∧ (f k = true → 0 ≤ n4)
end Go.Proofs.YthcfalipgnpelaaGreatDoor
