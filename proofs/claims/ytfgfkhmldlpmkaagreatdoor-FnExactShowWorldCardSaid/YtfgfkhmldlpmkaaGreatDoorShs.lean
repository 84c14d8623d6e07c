/- Functions by content: what a shard still has to close, counted; a provider written out, by the program and by the reference. -/
import Derived.Test.YtfgfkhmldlpmkaaGreatDoorExT
import Derived.Test.YtfgfkhmldlpmkaaGreatDoorDec
namespace Go.Proofs.YtfgfkhmldlpmkaaGreatDoor
open Go.RowKit Pl
set_option linter.unusedVariables false
set_option linter.unusedSimpArgs false

def tkE (l : List Int) : List (List T) := l.map fun n : Int => [.int .i64 n]
theorem tk_len (l : List Int) : (tkE l).length = l.length := by simp [tkE]
def tkL (l : List Int) : Int := l.getD (l.length - 1) 0
theorem tk_last {l : List Int} (h : 0 < l.length) : (tkE l)[l.length - 1]? = some [.int .i64 (tkL l)] := by
  simp [tkE, tkL, List.getD, List.getElem?_eq_getElem (show l.length - 1 < l.length by omega)]
theorem tk_dec : ∀ {z : List (List T)}, (∀ e ∈ z, Fits 1048576 .int e) → ∃ l : List Int, z = tkE l ∧ ∀ n ∈ l, -9223372036854775808 ≤ n ∧ n ≤ 9223372036854775807
  | [], _ => ⟨[], rfl, fun n h => by cases h⟩
  | e :: z, h => by
    obtain ⟨l, rfl, hl⟩ := tk_dec (z := z) fun e he => h e (List.mem_cons_of_mem _ he)
    obtain ⟨n, rfl, hn⟩ := h e (List.mem_cons_self ..)
    refine ⟨n :: l, rfl, fun m hm => ?_⟩
    rcases List.mem_cons.1 hm with rfl | hm
    · exact hn
    · exact hl m hm
theorem tkL_in {l : List Int} (h : ∀ n ∈ l, -9223372036854775808 ≤ n ∧ n ≤ 9223372036854775807) : -9223372036854775808 ≤ tkL l ∧ tkL l ≤ 9223372036854775807 := by
  unfold tkL
  rcases Nat.lt_or_ge (l.length - 1) l.length with h1 | h1
  · rw [List.getD, List.getElem?_eq_getElem h1]
    exact h _ (List.getElem_mem h1)
  · rw [List.getD, List.getElem?_eq_none h1]
    exact ⟨by decide, by decide⟩
/-- The changes that are left to close. -/
def wtE (tk : List Int) (al : List (List T)) : List (List T) := if tkL tk < 0 then [] else al.drop (tkL tk).toNat
theorem wt_le (tk : List Int) (al : List (List T)) : (wtE tk al).length ≤ al.length := by
  unfold wtE
  split
  · simp
  · simp
section
attribute [local irreducible] CondB CallP LoopW AnsP LeP
set_option maxRecDepth 100000 in
set_option maxHeartbeats 1000000 in
theorem c_takenOfA (a K : Int) (up : Bool) (y3 : List (List T)) (ep : Int) (y5 : List (List T)) (tk : List Int) (al : List (List T)) (re rt rk : Int) (h : tk.length ≤ 1048576) :
    CT Tryz.prog 68 [] [.agg [.int .i64 a, .int .i64 K, .bool up, .sl 3 y3, .int .i64 ep, .sl 1 y5, .sl 1 (tkE tk), .sl 3 al, .int .i64 re, .int .i64 rt, .int .i64 rk]] (.int .i64 (tkL tk)) [] := by
  have hl := tk_len tk
  refine ct_intro ttE_ok 1 rfl Tryz.func68 rfl rfl rfl ?_
  by_cases h0 : tk.length = 0
  · have e : tk = [] := List.eq_nil_of_length_eq_zero h0
    subst e
    repeat ((try conv => whnf); first | (refine Exists.intro 0 (And.intro rfl ?_)) | (refine stpQ ?_))
    (refine ans_auto (by rfl) ?_ ?_ (by rfl)) <;> (repeat' (first | (exact eqA) | (refine And.intro ?_ ?_) | ((fail_if_success (with_reducible (show _ = _))); (show _ = _)))) <;> rfl
  · have g := tk_last (l := tk) (by omega)
    generalize tkL tk = x at g ⊢
    repeat ((try conv => whnf); first | (refine Exists.intro tk.length (And.intro hl ?_)) | (refine i_at g ?_) | (refine stpQ ?_))
    (refine ans_auto (by rfl) ?_ ?_ (by rfl)) <;> repeat' (first | (exact eqA) | (refine And.intro ?_ ?_) | ((fail_if_success (with_reducible (show _ = _))); (show _ = _)))
set_option maxRecDepth 100000 in
set_option maxHeartbeats 1000000 in
theorem c_WaitsOf (a K : Int) (up : Bool) (y3 : List (List T)) (ep : Int) (y5 : List (List T)) (tk : List Int) (al : List (List T)) (re rt rk : Int) (h : tk.length ≤ 1048576) (ha : al.length ≤ 1048576) :
    CT Tryz.prog 46 [] [.agg [.int .i64 a, .int .i64 K, .bool up, .sl 3 y3, .int .i64 ep, .sl 1 y5, .sl 1 (tkE tk), .sl 3 al, .int .i64 re, .int .i64 rt, .int .i64 rk]] (.sl 3 (wtE tk al)) [] := by
  have c1 := c_takenOfA a K up y3 ep y5 tk al re rt rk h
  refine ct_intro ttE_ok 1 rfl Tryz.func46 rfl rfl rfl ?_
  unfold wtE
  generalize tkL tk = x at c1 ⊢
  by_cases h0 : x < 0
  · rw [if_pos h0]
    repeat ((try conv => whnf); first | (refine ccA ([]) (c1) ?_) | (refine And.intro (by kernel_rfl) ?_) | (refine stpQ ?_))
    (refine ans_auto (by rfl) ?_ ?_ (by rfl)) <;> (repeat' (first | (exact eqA) | (refine And.intro ?_ ?_) | ((fail_if_success (with_reducible (show _ = _))); (show _ = _)))) <;> rfl
  · rw [if_neg h0]
    obtain ⟨n, rfl⟩ : ∃ n : Nat, x = n := ⟨x.toNat, by omega⟩
    rw [Int.toNat_natCast]
    obtain ⟨m, hm1, hm2, hm3⟩ : ∃ m : Nat, m ≤ al.length ∧ al.drop n = al.drop m ∧ ((m : Nat) : Int) = (if (al.length : Int) < (n : Int) then (al.length : Int) else (n : Int)) := by
      by_cases hlt : al.length < n
      · exact ⟨al.length, by omega, by rw [List.drop_length, List.drop_eq_nil_of_le (by omega)], by rw [if_pos (by omega)]⟩
      · exact ⟨n, by omega, rfl, by rw [if_neg (by omega)]⟩
    rw [hm2]
    have hdl : (al.drop m).length ≤ 1048576 := by rw [List.length_drop]; omega
    repeat ((try conv => whnf); first | (refine ccA ([]) (c1) ?_) | (refine Exists.intro _ (And.intro hm3 ?_)) | (refine Exists.intro m (And.intro rfl (And.intro hm1 ?_))) | (refine And.intro (by simp only [List.length_append, List.length_cons, List.length_nil, List.nil_append]; omega) ?_) | (refine And.intro (by kernel_rfl) ?_) | (refine stpQ ?_))
    (refine ans_auto (by rfl) ?_ ?_ (by rfl)) <;> (repeat' (first | (exact eqA) | (refine And.intro ?_ ?_) | ((fail_if_success (with_reducible (show _ = _))); (show _ = _))))
set_option maxRecDepth 100000 in
set_option maxHeartbeats 2000000 in
theorem c_sWaitsOf (a K : Int) (up : Bool) (y3 : List (List T)) (ep : Int) (y5 : List (List T)) (tk : List Int) (al : List (List T)) (re rt rk : Int) (h : tk.length ≤ 1048576) (ha : al.length ≤ 1048576) (hx : ∀ e ∈ al, Fits 1048576 sh_Change e) :
    CT Tryz.prog 37 [] [.agg [.int .i64 a, .int .i64 K, .bool up, .sl 3 y3, .int .i64 ep, .sl 1 y5, .sl 1 (tkE tk), .sl 3 al, .int .i64 re, .int .i64 rt, .int .i64 rk]] (.sl 3 (wtE tk al)) [] := by
  have hl := tk_len tk
  refine ct_intro ttE_ok 1 rfl Tryz.func37 rfl rfl rfl ?_
  unfold wtE
  by_cases h0 : tk.length = 0
  · have e : tk = [] := List.eq_nil_of_length_eq_zero h0
    subst e
    rw [show tkL [] = 0 from rfl, if_neg (by omega), show (0 : Int).toNat = 0 from rfl]
    repeat ((try conv => whnf); first | (refine Exists.intro 0 (And.intro rfl ?_)) | (refine stpQ ?_))
    refine loop_cut 0 ⟨[(3, .ref 2)], [(2, some (.row 3 (al.drop 0)))], 3⟩ Nat (fun j => ⟨[(1, .ptr 1 0 0), (3, .ref 2), (5, .int .i64 ((0 + j : Nat) : Int))], [(1, some (.box [.int .i64 a, .int .i64 K, .bool up, .sl 3 y3, .int .i64 ep, .sl 1 y5, .sl 1 (tkE []), .sl 3 al, .int .i64 re, .int .i64 rt, .int .i64 rk])), (2, some (.row 3 ((al.drop 0).take j)))], 3⟩) (fun j => j ≤ (al.drop 0).length) (fun j => (al.drop 0).length - j) 0 (by omega) ?_ ?_ ?_
    · (refine le_auto (by rfl) ?_ ?_) <;> (repeat' (first | (exact eqA) | (refine And.intro ?_ ?_) | ((fail_if_success (with_reducible (show _ = _))); (show _ = _)))) <;> first | rfl | decide
    · intro j hj
      have hl2 : (al.drop 0).length = al.length - 0 := List.length_drop
      have hl3 : ((al.drop 0).take j).length = j := by rw [List.length_take]; omega
      have hbd : ∀ a : List T, ((((al.drop 0).take j) ++ ((List.replicate 1 [T.int .i64 0, T.str [], T.str []]).set 0 a)).length : Int) ≤ 1000000000 := fun a => by
        simp only [List.length_append, List.length_set, List.length_replicate]
        omega
      by_cases hlt : j < (al.drop 0).length
      · have hlt2 : 0 + j < al.length := by omega
        obtain ⟨c0, c1, c2, g, -⟩ := fits_Change (hx _ (List.getElem_mem hlt2))
        have g : al[0 + j]? = some [.int .i64 c0, .str c1, .str c2] := by rw [List.getElem?_eq_getElem hlt2, g]
        have hn : (al.drop 0).take (j + 1) = (al.drop 0).take j ++ [[.int .i64 c0, .str c1, .str c2]] := by
          rw [List.take_add_one, List.getElem?_drop, g]
          rfl
        repeat ((try conv => whnf); first | (refine i_at g ?_) | (refine And.intro (hbd _) ?_) | (refine stpQ ?_))
        refine ⟨j + 1, by omega, by omega, ?_⟩
        (refine le_auto (by rfl) ?_ ?_) <;> (repeat' (first | (exact eqA) | (refine And.intro ?_ ?_) | ((fail_if_success (with_reducible (show _ = _))); (show _ = _))))
        all_goals first | exact hn.symm | exact hn
      · have hge : al.length ≤ 0 + j := by omega
        have he : (al.drop 0).take j = al.drop 0 := List.take_of_length_le (by omega)
        rw [he]
        repeat ((try conv => whnf); first | (refine stpQ ?_))
        (refine le_auto (by rfl) ?_ ?_) <;> (repeat' (first | (exact eqA) | (refine And.intro ?_ ?_) | ((fail_if_success (with_reducible (show _ = _))); (show _ = _))))
    · repeat ((try conv => whnf); first | (refine And.intro (by kernel_rfl) ?_) | (refine stpQ ?_))
      (refine ans_auto (by rfl) ?_ ?_ (by rfl)) <;> (repeat' (first | (exact eqA) | (refine And.intro ?_ ?_) | ((fail_if_success (with_reducible (show _ = _))); (show _ = _))))
  · have g := tk_last (l := tk) (by omega)
    generalize tkL tk = x at g ⊢
    by_cases hx0 : x < 0
    · rw [if_pos hx0]
      repeat ((try conv => whnf); first | (refine Exists.intro tk.length (And.intro hl ?_)) | (refine i_at g ?_) | (refine stpQ ?_))
      refine loop_cut 0 ⟨[(3, .ref 2)], [(2, some (.row 3 []))], 3⟩ Nat (fun j => ⟨[(1, .ptr 1 0 0), (3, .ref 2), (5, .int .i64 x)], [(1, some (.box [.int .i64 a, .int .i64 K, .bool up, .sl 3 y3, .int .i64 ep, .sl 1 y5, .sl 1 (tkE tk), .sl 3 al, .int .i64 re, .int .i64 rt, .int .i64 rk])), (2, some (.row 3 []))], 3⟩) (fun j => True) (fun j => 0) 0 trivial ?_ ?_ ?_
      · (refine le_auto (by rfl) ?_ ?_) <;> (repeat' (first | (exact eqA) | (refine And.intro ?_ ?_) | ((fail_if_success (with_reducible (show _ = _))); (show _ = _)))) <;> first | rfl | decide
      · intro j hj
        repeat ((try conv => whnf); first | (refine stpQ ?_))
        (refine le_auto (by rfl) ?_ ?_) <;> (repeat' (first | (exact eqA) | (refine And.intro ?_ ?_) | ((fail_if_success (with_reducible (show _ = _))); (show _ = _))))
      · repeat ((try conv => whnf); first | (refine And.intro (by kernel_rfl) ?_) | (refine stpQ ?_))
        (refine ans_auto (by rfl) ?_ ?_ (by rfl)) <;> (repeat' (first | (exact eqA) | (refine And.intro ?_ ?_) | ((fail_if_success (with_reducible (show _ = _))); (show _ = _))))
    · rw [if_neg hx0]
      obtain ⟨n, rfl⟩ : ∃ n : Nat, x = n := ⟨x.toNat, by omega⟩
      rw [Int.toNat_natCast]
      by_cases hn9 : n ≤ al.length
      · repeat ((try conv => whnf); first | (refine Exists.intro tk.length (And.intro hl ?_)) | (refine i_at g ?_) | (refine stpQ ?_))
        refine loop_cut 0 ⟨[(3, .ref 2)], [(2, some (.row 3 (al.drop n)))], 3⟩ Nat (fun j => ⟨[(1, .ptr 1 0 0), (3, .ref 2), (5, .int .i64 ((n + j : Nat) : Int))], [(1, some (.box [.int .i64 a, .int .i64 K, .bool up, .sl 3 y3, .int .i64 ep, .sl 1 y5, .sl 1 (tkE tk), .sl 3 al, .int .i64 re, .int .i64 rt, .int .i64 rk])), (2, some (.row 3 ((al.drop n).take j)))], 3⟩) (fun j => j ≤ (al.drop n).length) (fun j => (al.drop n).length - j) 0 (by omega) ?_ ?_ ?_
        · (refine le_auto (by rfl) ?_ ?_) <;> (repeat' (first | (exact eqA) | (refine And.intro ?_ ?_) | ((fail_if_success (with_reducible (show _ = _))); (show _ = _)))) <;> first | rfl | decide
        · intro j hj
          have hl2 : (al.drop n).length = al.length - n := List.length_drop
          have hl3 : ((al.drop n).take j).length = j := by rw [List.length_take]; omega
          have hbd : ∀ a : List T, ((((al.drop n).take j) ++ ((List.replicate 1 [T.int .i64 0, T.str [], T.str []]).set 0 a)).length : Int) ≤ 1000000000 := fun a => by
            simp only [List.length_append, List.length_set, List.length_replicate]
            omega
          by_cases hlt : j < (al.drop n).length
          · have hlt2 : n + j < al.length := by omega
            obtain ⟨c0, c1, c2, g, -⟩ := fits_Change (hx _ (List.getElem_mem hlt2))
            have g : al[n + j]? = some [.int .i64 c0, .str c1, .str c2] := by rw [List.getElem?_eq_getElem hlt2, g]
            have hn : (al.drop n).take (j + 1) = (al.drop n).take j ++ [[.int .i64 c0, .str c1, .str c2]] := by
              rw [List.take_add_one, List.getElem?_drop, g]
              rfl
            repeat ((try conv => whnf); first | (refine i_at g ?_) | (refine And.intro (hbd _) ?_) | (refine stpQ ?_))
            refine ⟨j + 1, by omega, by omega, ?_⟩
            (refine le_auto (by rfl) ?_ ?_) <;> (repeat' (first | (exact eqA) | (refine And.intro ?_ ?_) | ((fail_if_success (with_reducible (show _ = _))); (show _ = _))))
            all_goals first | exact hn.symm | exact hn
          · have hge : al.length ≤ n + j := by omega
            have he : (al.drop n).take j = al.drop n := List.take_of_length_le (by omega)
            rw [he]
            repeat ((try conv => whnf); first | (refine stpQ ?_))
            (refine le_auto (by rfl) ?_ ?_) <;> (repeat' (first | (exact eqA) | (refine And.intro ?_ ?_) | ((fail_if_success (with_reducible (show _ = _))); (show _ = _))))
        · repeat ((try conv => whnf); first | (refine And.intro (by kernel_rfl) ?_) | (refine stpQ ?_))
          (refine ans_auto (by rfl) ?_ ?_ (by rfl)) <;> (repeat' (first | (exact eqA) | (refine And.intro ?_ ?_) | ((fail_if_success (with_reducible (show _ = _))); (show _ = _))))
      · have hd0 : al.drop n = [] := List.drop_eq_nil_of_le (by omega)
        rw [hd0]
        repeat ((try conv => whnf); first | (refine Exists.intro tk.length (And.intro hl ?_)) | (refine i_at g ?_) | (refine stpQ ?_))
        refine loop_cut 0 ⟨[(3, .ref 2)], [(2, some (.row 3 []))], 3⟩ Nat (fun j => ⟨[(1, .ptr 1 0 0), (3, .ref 2), (5, .int .i64 (n : Int))], [(1, some (.box [.int .i64 a, .int .i64 K, .bool up, .sl 3 y3, .int .i64 ep, .sl 1 y5, .sl 1 (tkE tk), .sl 3 al, .int .i64 re, .int .i64 rt, .int .i64 rk])), (2, some (.row 3 []))], 3⟩) (fun j => True) (fun j => 0) 0 trivial ?_ ?_ ?_
        · (refine le_auto (by rfl) ?_ ?_) <;> (repeat' (first | (exact eqA) | (refine And.intro ?_ ?_) | ((fail_if_success (with_reducible (show _ = _))); (show _ = _)))) <;> first | rfl | decide
        · intro j hj
          repeat ((try conv => whnf); first | (refine stpQ ?_))
          (refine le_auto (by rfl) ?_ ?_) <;> (repeat' (first | (exact eqA) | (refine And.intro ?_ ?_) | ((fail_if_success (with_reducible (show _ = _))); (show _ = _))))
        · repeat ((try conv => whnf); first | (refine And.intro (by kernel_rfl) ?_) | (refine stpQ ?_))
          (refine ans_auto (by rfl) ?_ ?_ (by rfl)) <;> (repeat' (first | (exact eqA) | (refine And.intro ?_ ?_) | ((fail_if_success (with_reducible (show _ = _))); (show _ = _))))
end
end Go.Proofs.YtfgfkhmldlpmkaaGreatDoor
