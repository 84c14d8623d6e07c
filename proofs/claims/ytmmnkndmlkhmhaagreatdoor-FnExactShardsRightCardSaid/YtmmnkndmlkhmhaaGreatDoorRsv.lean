/- The moves of the code itself, one by one: for texts whose code is kept shut (the kernel then compares no code that is still to come). Functions by content: the shards of a house are right. -/
import Derived.Test.YtmmnkndmlkhmhaaGreatDoorV22
import Derived.Test.YtmmnkndmlkhmhaaGreatDoorSzd
namespace Go.Proofs.YtmmnkndmlkhmhaaGreatDoor
open Go.RowKit Pl
set_option linter.unusedVariables false
set_option linter.unusedSimpArgs false

section
variable {P : Program} {tt : TT} {base : Nat} {Q : Pst}
theorem wi_seq {x y : Code} {S : St} (h : W P tt base x (fun e S' => match e with
    | .normal => W P tt base y Q S'
    | .exit i => Q (.exit i) S'
    | .ret => Q .ret S') S) : W P tt base (.seq x y) Q S := h
theorem wi_cond {c : Operand} {x y : Code} {S : St} {b : Bool} (he : S.ev c = .bool b) (h : CondB b (W P tt base x Q S) (W P tt base y Q S)) : W P tt base (.cond c x y) Q S := by
  show (match S.ev c with
    | .bool b => CondB b (W P tt base x Q S) (W P tt base y Q S)
    | _ => False)
  rw [he]
  exact h
theorem wi_reg {i : Nat} {ops : Array Oper} {sl : List (Nat × T)} {hp : List (Nat × Option Ent)} {nx : Nat} (h : WO P tt ops.toList nx 0 ops.toList (Q .normal) ⟨sl, hp, nx⟩) : W P tt base (.region i ops false) Q ⟨sl, hp, nx⟩ := h
theorem wi_regd {i : Nat} {ops : Array Oper} {sl : List (Nat × T)} {hp : List (Nat × Option Ent)} {nx : Nat} (h : WD P tt ops.toList nx (Q .normal) ⟨sl, hp, nx⟩) : W P tt base (.region i ops true) Q ⟨sl, hp, nx⟩ := h
theorem wi_skip {S : St} (h : Q .normal S) : W P tt base .skip Q S := h
theorem wi_ret {S : St} (h : Q .ret S) : W P tt base .ret Q S := h
theorem wi_exit {i : Nat} {S : St} (h : Q (.exit i) S) : W P tt base (.exit i) Q S := h
theorem wi_block {i : Nat} {c : Code} {S : St} (h : W P tt base c (fun e S' => match e with
    | .normal => Q .normal S'
    | .exit j => bif Nat.beq j i then Q .normal S' else Q (.exit j) S'
    | .ret => Q .ret S') S) : W P tt base (.block i c) Q S := h
theorem wi_loop {c : Code} {S : St} (h : LoopW base (W P tt base c) Q S) : W P tt base (.loop c) Q S := h
/-- One move of the code. -/
theorem wiQ {A B : Prop} (k : B) (h : B → A := by
  first
    | (exact wi_seq) | (exact wi_reg) | (exact wi_regd) | (exact wi_cond rfl) | (exact wi_skip) | (exact wi_ret) | (exact wi_exit) | (exact wi_block) | (exact wi_loop)) : A := h k
end
end Go.Proofs.YtmmnkndmlkhmhaaGreatDoor
namespace Go.Proofs.YtmmnkndmlkhmhaaGreatDoor
open Go.RowKit Pl
set_option linter.unusedVariables false
set_option linter.unusedSimpArgs false

def cI (e : List T) (j : Nat) : Int := match e[j]? with
  | some (.int _ n) => n
  | _ => 0
/-- One shard is right: its place, its split, itself, its epoch, and what it voted for last. -/
def shB (n : Nat) (K : Int) (tr : List Int) (f : Nat → Bool) (z : List (List T)) (k : Nat) : Bool :=
  decide (cI (z.getD k []) 0 = (k : Int)) && (decide (cI (z.getD k []) 1 = K) && (f k && (decide (cI (z.getD k []) 4 = (n : Int)) || (decide (cI (z.getD k []) 4 = (n : Int) - 1) && (decide (tr.length = n) && (decide (cI (z.getD k []) 8 = (n : Int)) && decide (cI (z.getD k []) 9 = isAt tr (n - 1))))))))
def allB (p : Nat → Bool) (n : Nat) : Bool := (List.range n).all p
theorem allB_no {p : Nat → Bool} {n k : Nat} (h : k < n) (hp : p k = false) : allB p n = false := by
  unfold allB
  rw [List.all_eq_false]
  exact ⟨k, List.mem_range.2 h, by simp [hp]⟩
theorem allB_yes {p : Nat → Bool} {n : Nat} (h : ∀ k, k < n → p k = true) : allB p n = true := List.all_eq_true.2 fun k hk => h k (List.mem_range.1 hk)
theorem sok (e : List T) (q : Fits 1048576 sh_Server e) : ∃ (n0 n1 : Int) (b2 : Bool) (z3 : List (List T)) (n4 : Int) (z5 z6 z7 : List (List T)) (n8 n9 n10 : Int) (b : Bool),
    e = [.int .i64 n0, .int .i64 n1, .bool b2, .sl 3 z3, .int .i64 n4, .sl 1 z5, .sl 1 z6, .sl 3 z7, .int .i64 n8, .int .i64 n9, .int .i64 n10] ∧
    CT Tryz.prog 24 [] [.agg [.int .i64 n0, .int .i64 n1, .bool b2, .sl 3 z3, .int .i64 n4, .sl 1 z5, .sl 1 z6, .sl 3 z7, .int .i64 n8, .int .i64 n9, .int .i64 n10]] (.bool b) [] ∧
    CT Tryz.prog 26 [] [.agg [.int .i64 n0, .int .i64 n1, .bool b2, .sl 3 z3, .int .i64 n4, .sl 1 z5, .sl 1 z6, .sl 3 z7, .int .i64 n8, .int .i64 n9, .int .i64 n10]] (.bool b) [] ∧ (b = true → 0 ≤ n4) := by
  obtain ⟨n0, n1, b2, z3, n4, z5, z6, z7, n8, n9, n10, rfl, -, -, -, q3, -, q5, q6, q7, -, -, -, -⟩ := fits_Server q
  obtain ⟨fs, rfl, h3⟩ := dec_fl q3.2
  obtain ⟨vs, rfl, h5⟩ := dec_vw q5.2
  obtain ⟨tk, rfl⟩ := dec_is q6.2
  obtain ⟨al, rfl, h7⟩ := dec_ch q7.2
  have a3 := q3.1
  have a5 := q5.1
  have a6 := q6.1
  have a7 := q7.1
  rw [fl_len] at a3
  rw [vw_len] at a5
  rw [is_len] at a6
  rw [ch_len] at a7
  have f := fl_fit (by omega) a3 h3
  have v := vw_fit (by omega) a5 h5
  refine ⟨n0, n1, b2, _, n4, _, _, _, n8, n9, n10, _, rfl, c_sServerOk n0 n1 b2 fs n4 vs tk al n8 n9 n10 f v (by omega) (by omega), c_ServerOk n0 n1 b2 fs n4 vs tk al n8 n9 n10 f v (by omega) (by omega), fun hb => ?_⟩
  simp only [svOkB, Bool.and_eq_true, decide_eq_true_eq] at hb
  omega
def SokAt (z : List (List T)) (f : Nat → Bool) (k : Nat) : Prop := ∃ (n0 n1 : Int) (b2 : Bool) (z3 : List (List T)) (n4 : Int) (z5 z6 z7 : List (List T)) (n8 n9 n10 : Int),
    z[k]? = some [.int .i64 n0, .int .i64 n1, .bool b2, .sl 3 z3, .int .i64 n4, .sl 1 z5, .sl 1 z6, .sl 3 z7, .int .i64 n8, .int .i64 n9, .int .i64 n10] ∧
    CT Tryz.prog 24 [] [.agg [.int .i64 n0, .int .i64 n1, .bool b2, .sl 3 z3, .int .i64 n4, .sl 1 z5, .sl 1 z6, .sl 3 z7, .int .i64 n8, .int .i64 n9, .int .i64 n10]] (.bool (f k)) [] ∧
    CT Tryz.prog 26 [] [.agg [.int .i64 n0, .int .i64 n1, .bool b2, .sl 3 z3, .int .i64 n4, .sl 1 z5, .sl 1 z6, .sl 3 z7, .int .i64 n8, .int .i64 n9, .int .i64 n10]] (.bool (f k)) [] ∧ (f k = true → 0 ≤ n4)
theorem sok_all (z : List (List T)) (hz : ∀ e ∈ z, Fits 1048576 sh_Server e) : ∃ f : Nat → Bool, ∀ k, k < z.length → SokAt z f k := by
  have key : ∀ k, ∃ b : Bool, k < z.length → SokAt z (fun _ => b) k := fun k => by
    by_cases h : k < z.length
    · obtain ⟨n0, n1, b2, z3, n4, z5, z6, z7, n8, n9, n10, b, he, h1, h2, h3⟩ := sok _ (hz _ (List.getElem_mem h))
      exact ⟨b, fun _ => ⟨n0, n1, b2, z3, n4, z5, z6, z7, n8, n9, n10, by rw [List.getElem?_eq_getElem h, he], h1, h2, h3⟩⟩
    · exact ⟨true, fun c => absurd c h⟩
  exact ⟨fun k => Classical.choose (key k), fun k hk => Classical.choose_spec (key k) hk⟩
section
attribute [local irreducible] CondB CallP LoopW AnsP LeP W
set_option maxRecDepth 100000 in
set_option maxHeartbeats 4000000 in
theorem c_ShardsRight (n0 K : Int) (b2 : Bool) (z3 z4 z5 : List (List T)) (tr : List Int) (n7 : Int) (b8 : Bool) (z9 z10 z z12 z13 : List (List T)) (f : Nat → Bool) (hf : ∀ k, k < z.length → SokAt z f k)
    (h5 : z5.length ≤ 1048576) (ht : tr.length ≤ 1048576) (hz : z.length ≤ 1048576) :
    CT Tryz.prog 52 [] [.agg [.int .i64 n0, .int .i64 K, .bool b2, .sl 3 z3, .sl 1 z4, .sl 8 z5, .sl 1 (isE tr), .int .i64 n7, .bool b8, .sl 1 z9, .sl 1 z10, .sl 11 z, .sl 1 z12, .sl 1 z13]] (.bool (allB (shB z5.length K tr f z) z.length)) [] := by
  have htl := is_len tr
  refine ct_intro ttE_ok 1 rfl Tryz.func52 rfl rfl rfl ?_
  repeat ((try conv => whnf); first | (refine wiQ ?_) | (refine stpQ ?_))
  refine loop_op Nat (fun k => ⟨[(1, .ptr 1 0 0), (3, .int .i64 (z5.length : Int)), (11, .sl 11 z), (12, .int .i64 (z.length : Int)), (13, .int .i64 (k : Int))], [(1, some (.box [.int .i64 n0, .int .i64 K, .bool b2, .sl 3 z3, .sl 1 z4, .sl 8 z5, .sl 1 (isE tr), .int .i64 n7, .bool b8, .sl 1 z9, .sl 1 z10, .sl 11 z, .sl 1 z12, .sl 1 z13]))], 2⟩)
    (fun k => k ≤ z.length ∧ ∀ j, j < k → shB z5.length K tr f z j = true) (fun k => z.length - k) 0 ⟨by omega, fun j h => by omega⟩ ?_ ?_
  · (refine le_auto (by rfl) ?_ ?_) <;> (repeat' (first | (exact eqA) | (refine And.intro ?_ ?_) | ((fail_if_success (with_reducible (show _ = _))); (show _ = _)))) <;> first | rfl | decide
  · intro Q1 hQ1 k hx
    have hk : k ≤ z.length := hx.1
    have hp := hx.2
    clear hx
    by_cases hlt : k < z.length
    · obtain ⟨a, Ks, u2, y3, ep, y5, y6, y7, re, rt, rk, g, -, cI1, hpos⟩ := hf k hlt
      have hlt2 : (k : Int) < (z.length : Int) := by omega
      have e1 : IntKind.i64.wrap ((z5.length : Int) - 1) = (z5.length : Int) - 1 := by rw [wrap_i64 (by omega) (by omega)]
      have gd : z.getD k [] = [.int .i64 a, .int .i64 Ks, .bool u2, .sl 3 y3, .int .i64 ep, .sl 1 y5, .sl 1 y6, .sl 3 y7, .int .i64 re, .int .i64 rt, .int .i64 rk] := by rw [List.getD, g]; rfl
      have hS : shB z5.length K tr f z k = (decide (a = (k : Int)) && (decide (Ks = K) && (f k && (decide (ep = (z5.length : Int)) || (decide (ep = (z5.length : Int) - 1) && (decide (tr.length = z5.length) && (decide (re = (z5.length : Int)) && decide (rt = isAt tr (z5.length - 1)))))))))  := by
        unfold shB
        rw [gd]
        rfl
      have hfin : shB z5.length K tr f z k = false → allB (shB z5.length K tr f z) z.length = false := fun h => allB_no hlt h
      have hgo : shB z5.length K tr f z k = true → ∀ j, j < k + 1 → shB z5.length K tr f z j = true := fun h j hj => by
        rcases Nat.lt_or_ge j k with h1 | h1
        · exact hp j h1
        · rw [show j = k by omega]; exact h
      clear hf gd hp
      generalize shB z5.length K tr f z k = B at hS hfin hgo
      by_cases q1 : a = (k : Int)
      · by_cases q2 : Ks = K
        · cases q3 : f k with
          | true =>
            rw [q3] at cI1 hS hpos
            have hep := hpos rfl
            by_cases q4 : ep = (z5.length : Int)
            · have hB : B = true := by rw [hS]; simp [q1, q2, q4]
              have q5 : ¬ ep = (z5.length : Int) - 1 := by omega
              repeat ((try conv => whnf); first | (refine i_at g ?_) | (refine ccA ([]) (cI1) ?_) | (refine Exists.intro _ (And.intro e1.symm ?_)) | (refine And.intro (by kernel_rfl) ?_) | (refine wiQ ?_) | (refine stpQ ?_))
              refine ⟨k + 1, ⟨by omega, hgo hB⟩, by omega, ?_⟩
              (refine le_auto (by rfl) ?_ ?_) <;> repeat' (first | (exact eqA) | (refine And.intro ?_ ?_) | ((fail_if_success (with_reducible (show _ = _))); (show _ = _)))
            · by_cases q5 : ep = (z5.length : Int) - 1
              · by_cases q6 : tr.length = z5.length
                · have gt : (isE tr)[z5.length - 1]? = some [.int .i64 (isAt tr (z5.length - 1))] := is_get (by omega)
                  have et : (z5.length : Int) - 1 = ((z5.length - 1 : Nat) : Int) := by omega
                  by_cases q7 : re = (z5.length : Int)
                  · by_cases q8 : rt = isAt tr (z5.length - 1)
                    · have hB : B = true := by rw [hS]; simp [q1, q2, q5, q6, q7, q8]
                      repeat ((try conv => whnf); first | (refine i_at g ?_) | (refine Exists.intro _ (Exists.intro _ (And.intro et (And.intro gt ?_)))) | (refine ccA ([]) (cI1) ?_) | (refine Exists.intro _ (And.intro e1.symm ?_)) | (refine And.intro (by kernel_rfl) ?_) | (refine wiQ ?_) | (refine stpQ ?_))
                      refine ⟨k + 1, ⟨by omega, hgo hB⟩, by omega, ?_⟩
                      (refine le_auto (by rfl) ?_ ?_) <;> repeat' (first | (exact eqA) | (refine And.intro ?_ ?_) | ((fail_if_success (with_reducible (show _ = _))); (show _ = _)))
                    · have hB : B = false := by rw [hS]; simp [q4, q8]
                      repeat ((try conv => whnf); first | (refine i_at g ?_) | (refine Exists.intro _ (Exists.intro _ (And.intro et (And.intro gt ?_)))) | (refine ccA ([]) (cI1) ?_) | (refine Exists.intro _ (And.intro e1.symm ?_)) | (refine And.intro (by kernel_rfl) ?_) | (refine wiQ ?_) | (refine stpQ ?_))
                      refine hQ1 _ _ ?_
                      (try conv => whnf)
                      rw [hfin hB]
                      (refine ans_auto (by rfl) ?_ ?_ (by rfl)) <;> repeat' (first | (exact eqA) | (refine And.intro ?_ ?_) | ((fail_if_success (with_reducible (show _ = _))); (show _ = _)))
                  · have hB : B = false := by rw [hS]; simp [q4, q7]
                    repeat ((try conv => whnf); first | (refine i_at g ?_) | (refine Exists.intro _ (Exists.intro _ (And.intro et (And.intro gt ?_)))) | (refine ccA ([]) (cI1) ?_) | (refine Exists.intro _ (And.intro e1.symm ?_)) | (refine And.intro (by kernel_rfl) ?_) | (refine wiQ ?_) | (refine stpQ ?_))
                    refine hQ1 _ _ ?_
                    (try conv => whnf)
                    rw [hfin hB]
                    (refine ans_auto (by rfl) ?_ ?_ (by rfl)) <;> repeat' (first | (exact eqA) | (refine And.intro ?_ ?_) | ((fail_if_success (with_reducible (show _ = _))); (show _ = _)))
                · have hB : B = false := by rw [hS]; simp [q4, q6]
                  repeat ((try conv => whnf); first | (refine i_at g ?_) | (refine ccA ([]) (cI1) ?_) | (refine Exists.intro _ (And.intro e1.symm ?_)) | (refine And.intro (by kernel_rfl) ?_) | (refine wiQ ?_) | (refine stpQ ?_))
                  refine hQ1 _ _ ?_
                  (try conv => whnf)
                  rw [hfin hB]
                  (refine ans_auto (by rfl) ?_ ?_ (by rfl)) <;> repeat' (first | (exact eqA) | (refine And.intro ?_ ?_) | ((fail_if_success (with_reducible (show _ = _))); (show _ = _)))
              · have hB : B = false := by rw [hS]; simp [q4, q5]
                repeat ((try conv => whnf); first | (refine i_at g ?_) | (refine ccA ([]) (cI1) ?_) | (refine Exists.intro _ (And.intro e1.symm ?_)) | (refine And.intro (by kernel_rfl) ?_) | (refine wiQ ?_) | (refine stpQ ?_))
                refine hQ1 _ _ ?_
                (try conv => whnf)
                rw [hfin hB]
                (refine ans_auto (by rfl) ?_ ?_ (by rfl)) <;> repeat' (first | (exact eqA) | (refine And.intro ?_ ?_) | ((fail_if_success (with_reducible (show _ = _))); (show _ = _)))
          | false =>
            rw [q3] at cI1 hS
            have hB : B = false := by rw [hS]; simp
            repeat ((try conv => whnf); first | (refine i_at g ?_) | (refine ccA ([]) (cI1) ?_) | (refine Exists.intro _ (And.intro e1.symm ?_)) | (refine And.intro (by kernel_rfl) ?_) | (refine wiQ ?_) | (refine stpQ ?_))
            refine hQ1 _ _ ?_
            (try conv => whnf)
            rw [hfin hB]
            (refine ans_auto (by rfl) ?_ ?_ (by rfl)) <;> repeat' (first | (exact eqA) | (refine And.intro ?_ ?_) | ((fail_if_success (with_reducible (show _ = _))); (show _ = _)))
        · have hB : B = false := by rw [hS]; simp [q2]
          repeat ((try conv => whnf); first | (refine i_at g ?_) | (refine ccA ([]) (cI1) ?_) | (refine Exists.intro _ (And.intro e1.symm ?_)) | (refine And.intro (by kernel_rfl) ?_) | (refine wiQ ?_) | (refine stpQ ?_))
          refine hQ1 _ _ ?_
          (try conv => whnf)
          rw [hfin hB]
          (refine ans_auto (by rfl) ?_ ?_ (by rfl)) <;> repeat' (first | (exact eqA) | (refine And.intro ?_ ?_) | ((fail_if_success (with_reducible (show _ = _))); (show _ = _)))
      · have hB : B = false := by rw [hS]; simp [q1]
        repeat ((try conv => whnf); first | (refine i_at g ?_) | (refine ccA ([]) (cI1) ?_) | (refine Exists.intro _ (And.intro e1.symm ?_)) | (refine And.intro (by kernel_rfl) ?_) | (refine wiQ ?_) | (refine stpQ ?_))
        refine hQ1 _ _ ?_
        (try conv => whnf)
        rw [hfin hB]
        (refine ans_auto (by rfl) ?_ ?_ (by rfl)) <;> repeat' (first | (exact eqA) | (refine And.intro ?_ ?_) | ((fail_if_success (with_reducible (show _ = _))); (show _ = _)))
    · have hke : k = z.length := by omega
      subst hke
      have hA := allB_yes hp
      repeat ((try conv => whnf); first | (refine wiQ ?_) | (refine stpQ ?_))
      refine hQ1 _ _ ?_
      repeat ((try conv => whnf); first | (refine wiQ ?_) | (refine stpQ ?_))
      rw [hA]
      (refine ans_auto (by rfl) ?_ ?_ (by rfl)) <;> repeat' (first | (exact eqA) | (refine And.intro ?_ ?_) | ((fail_if_success (with_reducible (show _ = _))); (show _ = _)))
set_option maxRecDepth 100000 in
set_option maxHeartbeats 4000000 in
theorem c_sShardsRight (n0 K : Int) (b2 : Bool) (z3 z4 z5 : List (List T)) (tr : List Int) (n7 : Int) (b8 : Bool) (z9 z10 z z12 z13 : List (List T)) (f : Nat → Bool) (hf : ∀ k, k < z.length → SokAt z f k)
    (h5 : z5.length ≤ 1048576) (ht : tr.length ≤ 1048576) (hz : z.length ≤ 1048576) :
    CT Tryz.prog 50 [] [.agg [.int .i64 n0, .int .i64 K, .bool b2, .sl 3 z3, .sl 1 z4, .sl 8 z5, .sl 1 (isE tr), .int .i64 n7, .bool b8, .sl 1 z9, .sl 1 z10, .sl 11 z, .sl 1 z12, .sl 1 z13]] (.bool (allB (shB z5.length K tr f z) z.length)) [] := by
  have htl := is_len tr
  refine ct_intro ttE_ok 1 rfl Tryz.func50 rfl rfl rfl ?_
  repeat ((try conv => whnf); first | (refine wiQ ?_) | (refine stpQ ?_))
  refine loop_op Nat (fun k => ⟨[(1, .ptr 1 0 0), (3, .int .i64 (z5.length : Int)), (4, .int .i64 (k : Int))], [(1, some (.box [.int .i64 n0, .int .i64 K, .bool b2, .sl 3 z3, .sl 1 z4, .sl 8 z5, .sl 1 (isE tr), .int .i64 n7, .bool b8, .sl 1 z9, .sl 1 z10, .sl 11 z, .sl 1 z12, .sl 1 z13]))], 2⟩)
    (fun k => k ≤ z.length ∧ ∀ j, j < k → shB z5.length K tr f z j = true) (fun k => z.length - k) 0 ⟨by omega, fun j h => by omega⟩ ?_ ?_
  · (refine le_auto (by rfl) ?_ ?_) <;> (repeat' (first | (exact eqA) | (refine And.intro ?_ ?_) | ((fail_if_success (with_reducible (show _ = _))); (show _ = _)))) <;> first | rfl | decide
  · intro Q1 hQ1 k hx
    have hk : k ≤ z.length := hx.1
    have hp := hx.2
    clear hx
    by_cases hlt : k < z.length
    · obtain ⟨a, Ks, u2, y3, ep, y5, y6, y7, re, rt, rk, g, cI1, -, hpos⟩ := hf k hlt
      have hlt2 : (k : Int) < (z.length : Int) := by omega
      have e1 : IntKind.i64.wrap ((z5.length : Int) - 1) = (z5.length : Int) - 1 := by rw [wrap_i64 (by omega) (by omega)]
      have gd : z.getD k [] = [.int .i64 a, .int .i64 Ks, .bool u2, .sl 3 y3, .int .i64 ep, .sl 1 y5, .sl 1 y6, .sl 3 y7, .int .i64 re, .int .i64 rt, .int .i64 rk] := by rw [List.getD, g]; rfl
      have hS : shB z5.length K tr f z k = (decide (a = (k : Int)) && (decide (Ks = K) && (f k && (decide (ep = (z5.length : Int)) || (decide (ep = (z5.length : Int) - 1) && (decide (tr.length = z5.length) && (decide (re = (z5.length : Int)) && decide (rt = isAt tr (z5.length - 1)))))))))  := by
        unfold shB
        rw [gd]
        rfl
      have hfin : shB z5.length K tr f z k = false → allB (shB z5.length K tr f z) z.length = false := fun h => allB_no hlt h
      have hgo : shB z5.length K tr f z k = true → ∀ j, j < k + 1 → shB z5.length K tr f z j = true := fun h j hj => by
        rcases Nat.lt_or_ge j k with h1 | h1
        · exact hp j h1
        · rw [show j = k by omega]; exact h
      clear hf gd hp
      generalize shB z5.length K tr f z k = B at hS hfin hgo
      by_cases q1 : a = (k : Int)
      · by_cases q2 : Ks = K
        · cases q3 : f k with
          | true =>
            rw [q3] at cI1 hS hpos
            have hep := hpos rfl
            by_cases q4 : ep = (z5.length : Int)
            · have hB : B = true := by rw [hS]; simp [q1, q2, q4]
              have r1 : ¬ ep > (z5.length : Int) := by omega
              have r2 : ¬ ep < (z5.length : Int) - 1 := by omega
              have r3 : ¬ ep < (z5.length : Int) := by omega
              repeat ((try conv => whnf); first | (refine i_at g ?_) | (refine ccA ([]) (cI1) ?_) | (refine Exists.intro _ (And.intro e1.symm ?_)) | (refine And.intro (by kernel_rfl) ?_) | (refine wiQ ?_) | (refine stpQ ?_))
              refine ⟨k + 1, ⟨by omega, hgo hB⟩, by omega, ?_⟩
              (refine le_auto (by rfl) ?_ ?_) <;> repeat' (first | (exact eqA) | (refine And.intro ?_ ?_) | ((fail_if_success (with_reducible (show _ = _))); (show _ = _)))
            · by_cases q5 : ep = (z5.length : Int) - 1
              · have r1 : ¬ ep > (z5.length : Int) := by omega
                have r2 : ¬ ep < (z5.length : Int) - 1 := by omega
                have r3 : ep < (z5.length : Int) := by omega
                by_cases q6 : tr.length = z5.length
                · have gt : (isE tr)[z5.length - 1]? = some [.int .i64 (isAt tr (z5.length - 1))] := is_get (by omega)
                  have et : (z5.length : Int) - 1 = ((z5.length - 1 : Nat) : Int) := by omega
                  by_cases q7 : re = (z5.length : Int)
                  · by_cases q8 : rt = isAt tr (z5.length - 1)
                    · have hB : B = true := by rw [hS]; simp [q1, q2, q5, q6, q7, q8]
                      repeat ((try conv => whnf); first | (refine i_at g ?_) | (refine Exists.intro _ (Exists.intro _ (And.intro et (And.intro gt ?_)))) | (refine ccA ([]) (cI1) ?_) | (refine Exists.intro _ (And.intro e1.symm ?_)) | (refine And.intro (by kernel_rfl) ?_) | (refine wiQ ?_) | (refine stpQ ?_))
                      refine ⟨k + 1, ⟨by omega, hgo hB⟩, by omega, ?_⟩
                      (refine le_auto (by rfl) ?_ ?_) <;> repeat' (first | (exact eqA) | (refine And.intro ?_ ?_) | ((fail_if_success (with_reducible (show _ = _))); (show _ = _)))
                    · have hB : B = false := by rw [hS]; simp [q4, q8]
                      repeat ((try conv => whnf); first | (refine i_at g ?_) | (refine Exists.intro _ (Exists.intro _ (And.intro et (And.intro gt ?_)))) | (refine ccA ([]) (cI1) ?_) | (refine Exists.intro _ (And.intro e1.symm ?_)) | (refine And.intro (by kernel_rfl) ?_) | (refine wiQ ?_) | (refine stpQ ?_))
                      refine hQ1 _ _ ?_
                      (try conv => whnf)
                      rw [hfin hB]
                      (refine ans_auto (by rfl) ?_ ?_ (by rfl)) <;> repeat' (first | (exact eqA) | (refine And.intro ?_ ?_) | ((fail_if_success (with_reducible (show _ = _))); (show _ = _)))
                  · have hB : B = false := by rw [hS]; simp [q4, q7]
                    repeat ((try conv => whnf); first | (refine i_at g ?_) | (refine Exists.intro _ (Exists.intro _ (And.intro et (And.intro gt ?_)))) | (refine ccA ([]) (cI1) ?_) | (refine Exists.intro _ (And.intro e1.symm ?_)) | (refine And.intro (by kernel_rfl) ?_) | (refine wiQ ?_) | (refine stpQ ?_))
                    refine hQ1 _ _ ?_
                    (try conv => whnf)
                    rw [hfin hB]
                    (refine ans_auto (by rfl) ?_ ?_ (by rfl)) <;> repeat' (first | (exact eqA) | (refine And.intro ?_ ?_) | ((fail_if_success (with_reducible (show _ = _))); (show _ = _)))
                · have hB : B = false := by rw [hS]; simp [q4, q6]
                  repeat ((try conv => whnf); first | (refine i_at g ?_) | (refine ccA ([]) (cI1) ?_) | (refine Exists.intro _ (And.intro e1.symm ?_)) | (refine And.intro (by kernel_rfl) ?_) | (refine wiQ ?_) | (refine stpQ ?_))
                  refine hQ1 _ _ ?_
                  (try conv => whnf)
                  rw [hfin hB]
                  (refine ans_auto (by rfl) ?_ ?_ (by rfl)) <;> repeat' (first | (exact eqA) | (refine And.intro ?_ ?_) | ((fail_if_success (with_reducible (show _ = _))); (show _ = _)))
              · have hB : B = false := by rw [hS]; simp [q4, q5]
                by_cases r1 : ep > (z5.length : Int)
                · repeat ((try conv => whnf); first | (refine i_at g ?_) | (refine ccA ([]) (cI1) ?_) | (refine Exists.intro _ (And.intro e1.symm ?_)) | (refine And.intro (by kernel_rfl) ?_) | (refine wiQ ?_) | (refine stpQ ?_))
                  refine hQ1 _ _ ?_
                  (try conv => whnf)
                  rw [hfin hB]
                  (refine ans_auto (by rfl) ?_ ?_ (by rfl)) <;> repeat' (first | (exact eqA) | (refine And.intro ?_ ?_) | ((fail_if_success (with_reducible (show _ = _))); (show _ = _)))
                · have r2 : ep < (z5.length : Int) - 1 := by omega
                  repeat ((try conv => whnf); first | (refine i_at g ?_) | (refine ccA ([]) (cI1) ?_) | (refine Exists.intro _ (And.intro e1.symm ?_)) | (refine And.intro (by kernel_rfl) ?_) | (refine wiQ ?_) | (refine stpQ ?_))
                  refine hQ1 _ _ ?_
                  (try conv => whnf)
                  rw [hfin hB]
                  (refine ans_auto (by rfl) ?_ ?_ (by rfl)) <;> repeat' (first | (exact eqA) | (refine And.intro ?_ ?_) | ((fail_if_success (with_reducible (show _ = _))); (show _ = _)))
          | false =>
            rw [q3] at cI1 hS
            have hB : B = false := by rw [hS]; simp
            repeat ((try conv => whnf); first | (refine i_at g ?_) | (refine ccA ([]) (cI1) ?_) | (refine Exists.intro _ (And.intro e1.symm ?_)) | (refine And.intro (by kernel_rfl) ?_) | (refine wiQ ?_) | (refine stpQ ?_))
            refine hQ1 _ _ ?_
            (try conv => whnf)
            rw [hfin hB]
            (refine ans_auto (by rfl) ?_ ?_ (by rfl)) <;> repeat' (first | (exact eqA) | (refine And.intro ?_ ?_) | ((fail_if_success (with_reducible (show _ = _))); (show _ = _)))
        · have hB : B = false := by rw [hS]; simp [q2]
          repeat ((try conv => whnf); first | (refine i_at g ?_) | (refine ccA ([]) (cI1) ?_) | (refine Exists.intro _ (And.intro e1.symm ?_)) | (refine And.intro (by kernel_rfl) ?_) | (refine wiQ ?_) | (refine stpQ ?_))
          refine hQ1 _ _ ?_
          (try conv => whnf)
          rw [hfin hB]
          (refine ans_auto (by rfl) ?_ ?_ (by rfl)) <;> repeat' (first | (exact eqA) | (refine And.intro ?_ ?_) | ((fail_if_success (with_reducible (show _ = _))); (show _ = _)))
      · have hB : B = false := by rw [hS]; simp [q1]
        repeat ((try conv => whnf); first | (refine i_at g ?_) | (refine ccA ([]) (cI1) ?_) | (refine Exists.intro _ (And.intro e1.symm ?_)) | (refine And.intro (by kernel_rfl) ?_) | (refine wiQ ?_) | (refine stpQ ?_))
        refine hQ1 _ _ ?_
        (try conv => whnf)
        rw [hfin hB]
        (refine ans_auto (by rfl) ?_ ?_ (by rfl)) <;> repeat' (first | (exact eqA) | (refine And.intro ?_ ?_) | ((fail_if_success (with_reducible (show _ = _))); (show _ = _)))
    · have hke : k = z.length := by omega
      subst hke
      have hA := allB_yes hp
      repeat ((try conv => whnf); first | (refine wiQ ?_) | (refine stpQ ?_))
      refine hQ1 _ _ ?_
      repeat ((try conv => whnf); first | (refine wiQ ?_) | (refine stpQ ?_))
      rw [hA]
      (refine ans_auto (by rfl) ?_ ?_ (by rfl)) <;> repeat' (first | (exact eqA) | (refine And.intro ?_ ?_) | ((fail_if_success (with_reducible (show _ = _))); (show _ = _)))
end
theorem alike_ShardsRight (e : List T) (q : Fits 1048576 sh_House e) : ∃ b, CT Tryz.prog 50 [] [.agg e] (.bool b) [] ∧ CT Tryz.prog 52 [] [.agg e] (.bool b) [] := by
  obtain ⟨n0, n1, b2, z3, z4, z5, z6, n7, b8, z9, z10, z11, z12, z13, rfl, -, -, -, -, -, q5, q6, -, -, -, -, q11, -, -, -⟩ := fits_House q
  obtain ⟨tr, rfl⟩ := dec_is q6.2
  have a6 := q6.1
  rw [is_len] at a6
  obtain ⟨f, hf⟩ := sok_all z11 q11.2
  exact ⟨_, c_sShardsRight n0 n1 b2 z3 z4 z5 tr n7 b8 z9 z10 z11 z12 z13 f hf q5.1 a6 q11.1, c_ShardsRight n0 n1 b2 z3 z4 z5 tr n7 b8 z9 z10 z11 z12 z13 f hf q5.1 a6 q11.1⟩
end Go.Proofs.YtmmnkndmlkhmhaaGreatDoor
