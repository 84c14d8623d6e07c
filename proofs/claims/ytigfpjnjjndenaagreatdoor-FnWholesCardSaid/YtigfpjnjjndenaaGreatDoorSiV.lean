/- Functions by content: a complete proof is verified. Functions by content: a complete proof is encoded. Functions by content: a complete proof is decoded from its text. -/
import Derived.Test.YtigfpjnjjndenaaGreatDoorSiP
import Derived.Test.YtigfpjnjjndenaaGreatDoorPlainWh
namespace Go.Proofs.YtigfpjnjjndenaaGreatDoor
open Go.RowKit Pl
set_option linter.unusedVariables false
set_option linter.unusedSimpArgs false
attribute [local irreducible] CondB CallP LoopW AnsP LeP

set_option maxRecDepth 100000 in
set_option maxHeartbeats 4000000 in
theorem c_foldTextsJ (h : Bs) (ix w j0 : Nat) (s : List Bs) (hix : ix < 256) (hw : 1 ≤ w ∧ w ≤ 32) (hs : j0 + s.length ≤ 8) (hh : h.length ≤ 200) (hsl : ∀ x ∈ s, x.length ≤ 200) :
    CT Tryz.prog 84 [] [.str h, .int .i64 (ix : Int), .int .i64 (8 - (j0 : Int)), .sl 1 (strE s), .int .i64 (w : Int)] (.tup [.ref 1, .str (foldS ix w j0 h s).2]) [.row 1 (strE (foldS ix w j0 h s).1)] := by
  have hlen := strE_len s
  have hR0 : FdAt (foldS ix w j0 h s) ix w [] j0 h (s.drop 0) := rfl
  generalize foldS ix w j0 h s = R at hR0 ⊢
  refine ct_intro tt_ok 1 rfl Tryz.func84 rfl rfl rfl ?_
  repeat ((try conv => whnf); first | (refine Exists.intro s.length (And.intro hlen ?_)) | (refine And.intro rfl ?_) | (refine w_addn (by omega) ?_) | (refine w_subn (by omega) ?_) | (refine w_add (by omega) ?_) | (refine w_sub (by omega) ?_) | (refine w_any (by omega) ?_) | (refine Exists.intro _ (And.intro rfl ?_)) | (with_reducible (refine cb_t rfl ?_)) | (with_reducible (refine cb_f rfl ?_)) | (refine cb_dt (by omega) ?_) | (refine cb_df (by omega) ?_) | (refine cb_nt (by omega) ?_) | (refine cb_nf (by omega) ?_) | (refine cb_t (by assumption) ?_) | (refine cb_f (by assumption) ?_) | (refine i_lt (by omega) ?_) | (refine i_le (by omega) ?_) | (refine i_cut (by omega) ?_) | (refine And.intro (by omega) ?_) | (refine And.intro trivial ?_) | (refine And.intro (by decide) ?_) | (refine And.intro (Nat.le_of_ble_eq_true rfl) ?_))
  refine loop_cut 0 ⟨[(0, .str R.2), (12, .ref 1)], [(1, some (.row 1 (strE R.1)))], 2⟩ (Nat × Bs × List Bs) (fun x => ⟨[(0, .str x.2.1), (1, .int .i64 (ix : Int)), (2, .int .i64 (8 - ((j0 + x.1 : Nat) : Int))), (4, .int .i64 (w : Int)), (12, .ref 1), (18, .sl 1 (strE s)), (19, .int .i64 (s.length : Int)), (20, .int .i64 (x.1 : Int))], [(1, some (.row 1 (strE x.2.2)))], 2⟩) (fun x => x.1 ≤ s.length ∧ x.2.1.length ≤ 200 ∧ x.2.2.length = x.1 ∧ FdAt R ix w x.2.2 (j0 + x.1) x.2.1 (s.drop x.1)) (fun x => s.length - x.1) (0, h, []) ⟨by simp, hh, rfl, hR0⟩ ?_ ?_ ?_
  · (refine le_auto (by rfl) ?_ ?_) <;> (repeat' (first | (exact trivial) | (with_reducible rfl) | (exact (rfl : _ = true)) | (exact (rfl : _ = some _)) | (exact (rfl : _ = none)) | (refine And.intro ?_ ?_) | ((show (_ : Int) = _); omega) | ((fail_if_success (with_reducible (show _ = _))); (show _ = _)))) <;> first | rfl | decide
  · intro x hx
    obtain ⟨k, hk0, T⟩ := x
    have hk : k ≤ s.length := hx.1
    have hl : hk0.length ≤ 200 := hx.2.1
    have hT : T.length = k := hx.2.2.1
    have hat : FdAt R ix w T (j0 + k) hk0 (s.drop k) := hx.2.2.2
    clear hx
    have hTl := strE_len T
    by_cases hlt : k < s.length
    · rw [drop_pAt hlt] at hat
      have hst := hat.step
      have hpl : (pAt s k).length ≤ 200 := by simp only [pAt, List.getD, List.getElem?_eq_getElem hlt, Option.getD_some]; exact hsl _ (List.getElem_mem hlt)
      have hpo := pair_ok (ix := ix) (j := j0 + k) hl hpl
      have c1 := c_BitOf ix (j0 + k) hix (by omega)
      have c2 := c_TagText 3 (pairB ix (j0 + k) hk0 (pAt s k)) (by omega) hpo
      have hcl := cutB_len (t := tagB 3 (pairB ix (j0 + k) hk0 (pAt s k))) hw.2
      have htl := tagB_len (k := 3) hpo
      have c3 := c_CutD (tagB 3 (pairB ix (j0 + k) hk0 (pAt s k))) w (by omega) hw
      have e1 : IntKind.i64.wrap (8 - ((j0 + k : Nat) : Int) - 1) = 7 - ((j0 + k : Nat) : Int) := by rw [wrap_i64 (by omega) (by omega)]; omega
      have e2 : 7 - ((j0 + k : Nat) : Int) = 8 - ((j0 + (k + 1) : Nat) : Int) := by omega
      by_cases hb : bitB ix (j0 + k) = 1
      · have hb2 : ((bitB ix (j0 + k) : Nat) : Int) = 1 := by omega
        have hpr : pairB ix (j0 + k) hk0 (pAt s k) = [pAt s k, hk0] := by unfold pairB; rw [if_pos hb]
        rw [hpr] at c2 c3 hst hcl htl
        generalize tagB 3 [pAt s k, hk0] = tg at c2 c3 hst hcl htl
        generalize cutB tg w = ct at c3 hst hcl
        repeat ((try conv => whnf); first | (refine i_at (strE_get hlt) ?_) | (refine Exists.intro _ (And.intro e1.symm ?_)) | (refine c_call ([]) (c1) (by ((repeat' (first | (exact trivial) | (exact rfl) | (refine And.intro ?_ ?_))); first | done | fail)) (by ((repeat' (first | (exact trivial) | (exact rfl) | (refine And.intro ?_ ?_))); first | done | fail)) (by decide) (by rfl) (by first | exact .inl rfl | (refine .inr ⟨?_, ?_⟩ <;> simp [own2, own1, own0, ownE])) ?_) | (refine cb_dt hb2 ?_) | (refine c_call ([]) (c2) (by ((repeat' (first | (exact trivial) | (exact rfl) | (refine And.intro ?_ ?_))); first | done | fail)) (by ((repeat' (first | (exact trivial) | (exact rfl) | (refine And.intro ?_ ?_))); first | done | fail)) (by decide) (by rfl) (by first | exact .inl rfl | (refine .inr ⟨?_, ?_⟩ <;> simp [own2, own1, own0, ownE])) ?_) | (refine c_call ([]) (c3) (by ((repeat' (first | (exact trivial) | (exact rfl) | (refine And.intro ?_ ?_))); first | done | fail)) (by ((repeat' (first | (exact trivial) | (exact rfl) | (refine And.intro ?_ ?_))); first | done | fail)) (by decide) (by rfl) (by first | exact .inl rfl | (refine .inr ⟨?_, ?_⟩ <;> simp [own2, own1, own0, ownE])) ?_) | (refine And.intro (by rw [List.length_append]; simp; omega) ?_) | (refine And.intro rfl ?_) | (refine w_addn (by omega) ?_) | (refine w_subn (by omega) ?_) | (refine w_add (by omega) ?_) | (refine w_sub (by omega) ?_) | (refine w_any (by omega) ?_) | (refine Exists.intro _ (And.intro rfl ?_)) | (with_reducible (refine cb_t rfl ?_)) | (with_reducible (refine cb_f rfl ?_)) | (refine cb_dt (by omega) ?_) | (refine cb_df (by omega) ?_) | (refine cb_nt (by omega) ?_) | (refine cb_nf (by omega) ?_) | (refine cb_t (by assumption) ?_) | (refine cb_f (by assumption) ?_) | (refine i_lt (by omega) ?_) | (refine i_le (by omega) ?_) | (refine i_cut (by omega) ?_) | (refine And.intro (by omega) ?_) | (refine And.intro trivial ?_) | (refine And.intro (by decide) ?_) | (refine And.intro (Nat.le_of_ble_eq_true rfl) ?_))
        refine ⟨(k + 1, ct, T ++ [tg]), ⟨by show k + 1 ≤ _; omega, by show ct.length ≤ 200; omega, by simp [hT], hst⟩, (by show s.length - (k + 1) < s.length - k; omega), ?_⟩
        (refine le_auto (by rfl) ?_ ?_) <;> (repeat' (first | (exact trivial) | (with_reducible rfl) | (exact (rfl : _ = true)) | (exact (rfl : _ = some _)) | (exact (rfl : _ = none)) | (refine And.intro ?_ ?_) | ((show (_ : Int) = _); omega) | ((fail_if_success (with_reducible (show _ = _))); (show _ = _))))
        all_goals first
          | exact e2
          | (rw [strE_app]; rfl)
      · have hb2 : ¬ ((bitB ix (j0 + k) : Nat) : Int) = 1 := by omega
        have hpr : pairB ix (j0 + k) hk0 (pAt s k) = [hk0, pAt s k] := by unfold pairB; rw [if_neg hb]
        rw [hpr] at c2 c3 hst hcl htl
        generalize tagB 3 [hk0, pAt s k] = tg at c2 c3 hst hcl htl
        generalize cutB tg w = ct at c3 hst hcl
        repeat ((try conv => whnf); first | (refine i_at (strE_get hlt) ?_) | (refine Exists.intro _ (And.intro e1.symm ?_)) | (refine c_call ([]) (c1) (by ((repeat' (first | (exact trivial) | (exact rfl) | (refine And.intro ?_ ?_))); first | done | fail)) (by ((repeat' (first | (exact trivial) | (exact rfl) | (refine And.intro ?_ ?_))); first | done | fail)) (by decide) (by rfl) (by first | exact .inl rfl | (refine .inr ⟨?_, ?_⟩ <;> simp [own2, own1, own0, ownE])) ?_) | (refine cb_df hb2 ?_) | (refine c_call ([]) (c2) (by ((repeat' (first | (exact trivial) | (exact rfl) | (refine And.intro ?_ ?_))); first | done | fail)) (by ((repeat' (first | (exact trivial) | (exact rfl) | (refine And.intro ?_ ?_))); first | done | fail)) (by decide) (by rfl) (by first | exact .inl rfl | (refine .inr ⟨?_, ?_⟩ <;> simp [own2, own1, own0, ownE])) ?_) | (refine c_call ([]) (c3) (by ((repeat' (first | (exact trivial) | (exact rfl) | (refine And.intro ?_ ?_))); first | done | fail)) (by ((repeat' (first | (exact trivial) | (exact rfl) | (refine And.intro ?_ ?_))); first | done | fail)) (by decide) (by rfl) (by first | exact .inl rfl | (refine .inr ⟨?_, ?_⟩ <;> simp [own2, own1, own0, ownE])) ?_) | (refine And.intro (by rw [List.length_append]; simp; omega) ?_) | (refine And.intro rfl ?_) | (refine w_addn (by omega) ?_) | (refine w_subn (by omega) ?_) | (refine w_add (by omega) ?_) | (refine w_sub (by omega) ?_) | (refine w_any (by omega) ?_) | (refine Exists.intro _ (And.intro rfl ?_)) | (with_reducible (refine cb_t rfl ?_)) | (with_reducible (refine cb_f rfl ?_)) | (refine cb_dt (by omega) ?_) | (refine cb_df (by omega) ?_) | (refine cb_nt (by omega) ?_) | (refine cb_nf (by omega) ?_) | (refine cb_t (by assumption) ?_) | (refine cb_f (by assumption) ?_) | (refine i_lt (by omega) ?_) | (refine i_le (by omega) ?_) | (refine i_cut (by omega) ?_) | (refine And.intro (by omega) ?_) | (refine And.intro trivial ?_) | (refine And.intro (by decide) ?_) | (refine And.intro (Nat.le_of_ble_eq_true rfl) ?_))
        refine ⟨(k + 1, ct, T ++ [tg]), ⟨by show k + 1 ≤ _; omega, by show ct.length ≤ 200; omega, by simp [hT], hst⟩, (by show s.length - (k + 1) < s.length - k; omega), ?_⟩
        (refine le_auto (by rfl) ?_ ?_) <;> (repeat' (first | (exact trivial) | (with_reducible rfl) | (exact (rfl : _ = true)) | (exact (rfl : _ = some _)) | (exact (rfl : _ = none)) | (refine And.intro ?_ ?_) | ((show (_ : Int) = _); omega) | ((fail_if_success (with_reducible (show _ = _))); (show _ = _))))
        all_goals first
          | exact e2
          | (rw [strE_app]; rfl)
    · have hke : k = s.length := by omega
      rw [hke, List.drop_length] at hat
      rw [hat.done]
      repeat ((try conv => whnf); first | (refine And.intro rfl ?_) | (refine w_addn (by omega) ?_) | (refine w_subn (by omega) ?_) | (refine w_add (by omega) ?_) | (refine w_sub (by omega) ?_) | (refine w_any (by omega) ?_) | (refine Exists.intro _ (And.intro rfl ?_)) | (with_reducible (refine cb_t rfl ?_)) | (with_reducible (refine cb_f rfl ?_)) | (refine cb_dt (by omega) ?_) | (refine cb_df (by omega) ?_) | (refine cb_nt (by omega) ?_) | (refine cb_nf (by omega) ?_) | (refine cb_t (by assumption) ?_) | (refine cb_f (by assumption) ?_) | (refine i_lt (by omega) ?_) | (refine i_le (by omega) ?_) | (refine i_cut (by omega) ?_) | (refine And.intro (by omega) ?_) | (refine And.intro trivial ?_) | (refine And.intro (by decide) ?_) | (refine And.intro (Nat.le_of_ble_eq_true rfl) ?_))
      (refine le_auto (by rfl) ?_ ?_) <;> (repeat' (first | (exact trivial) | (with_reducible rfl) | (exact (rfl : _ = true)) | (exact (rfl : _ = some _)) | (exact (rfl : _ = none)) | (refine And.intro ?_ ?_) | ((show (_ : Int) = _); omega) | ((fail_if_success (with_reducible (show _ = _))); (show _ = _))))
  · obtain ⟨a, b⟩ := R
    repeat ((try conv => whnf); first | (refine And.intro rfl ?_) | (refine w_addn (by omega) ?_) | (refine w_subn (by omega) ?_) | (refine w_add (by omega) ?_) | (refine w_sub (by omega) ?_) | (refine w_any (by omega) ?_) | (refine Exists.intro _ (And.intro rfl ?_)) | (with_reducible (refine cb_t rfl ?_)) | (with_reducible (refine cb_f rfl ?_)) | (refine cb_dt (by omega) ?_) | (refine cb_df (by omega) ?_) | (refine cb_nt (by omega) ?_) | (refine cb_nf (by omega) ?_) | (refine cb_t (by assumption) ?_) | (refine cb_f (by assumption) ?_) | (refine i_lt (by omega) ?_) | (refine i_le (by omega) ?_) | (refine i_cut (by omega) ?_) | (refine And.intro (by omega) ?_) | (refine And.intro trivial ?_) | (refine And.intro (by decide) ?_) | (refine And.intro (Nat.le_of_ble_eq_true rfl) ?_))
    (refine ans_auto (by rfl) ?_ ?_ (by rfl)) <;> (repeat' (first | (exact trivial) | (with_reducible rfl) | (exact (rfl : _ = true)) | (exact (rfl : _ = some _)) | (exact (rfl : _ = none)) | (refine And.intro ?_ ?_) | ((show (_ : Int) = _); omega) | ((fail_if_success (with_reducible (show _ = _))); (show _ = _))))
set_option maxRecDepth 100000 in
set_option maxHeartbeats 2000000 in
theorem c_FoldUp (h : Bs) (ix K : Nat) (s : List Bs) (hix : ix < 256) (hK : K ≤ 8) (hs : s.length = K) (hh : h.length ≤ 200) (hsl : ∀ x ∈ s, x.length ≤ 200) :
    CT Tryz.prog 107 [] [.str h, .int .i64 (ix : Int), .int .i64 (K : Int), .sl 1 (strE s), .int .i64 16] (.str (foldS ix 16 (8 - K) h s).2) [] := by
  have c1 := c_inT (x := (K : Int)) (lo := 0) (hi := 8) (by omega)
  have c2 := c_foldTextsJ h ix 16 (8 - K) s hix (by omega) (by omega) hh hsl
  rw [show (8 : Int) - ((8 - K : Nat) : Int) = (K : Int) by omega] at c2
  have hlen := strE_len s
  generalize foldS ix 16 (8 - K) h s = R at c2 ⊢
  obtain ⟨Ra, Rb⟩ := R
  have hgt : ¬ (K : Int) > (K : Int) := by omega
  refine ct_intro tt4_ok 1 rfl Tryz.func107 rfl rfl rfl ?_
  repeat ((try conv => whnf); first | (refine c_call ([]) (c1) (by ((repeat' (first | (exact trivial) | (exact rfl) | (refine And.intro ?_ ?_))); first | done | fail)) (by ((repeat' (first | (exact trivial) | (exact rfl) | (refine And.intro ?_ ?_))); first | done | fail)) (by decide) (by rfl) (by first | exact .inl rfl | (refine .inr ⟨?_, ?_⟩ <;> simp [own2, own1, own0, ownE])) ?_) | (refine Exists.intro K (And.intro (hlen.trans hs) ?_)) | (refine c_call ([]) (c2) (by ((repeat' (first | (exact trivial) | (exact rfl) | (refine And.intro ?_ ?_))); first | done | fail)) (by ((repeat' (first | (exact trivial) | (exact rfl) | (refine And.intro ?_ ?_))); first | done | fail)) (by decide) (by rfl) (by first | exact .inl rfl | (refine .inr ⟨?_, ?_⟩ <;> simp [own2, own1, own0, ownE])) ?_) | (refine And.intro rfl ?_) | (refine w_addn (by omega) ?_) | (refine w_subn (by omega) ?_) | (refine w_add (by omega) ?_) | (refine w_sub (by omega) ?_) | (refine w_any (by omega) ?_) | (refine Exists.intro _ (And.intro rfl ?_)) | (with_reducible (refine cb_t rfl ?_)) | (with_reducible (refine cb_f rfl ?_)) | (refine cb_dt (by omega) ?_) | (refine cb_df (by omega) ?_) | (refine cb_nt (by omega) ?_) | (refine cb_nf (by omega) ?_) | (refine cb_t (by assumption) ?_) | (refine cb_f (by assumption) ?_) | (refine i_lt (by omega) ?_) | (refine i_le (by omega) ?_) | (refine i_cut (by omega) ?_) | (refine And.intro (by omega) ?_) | (refine And.intro trivial ?_) | (refine And.intro (by decide) ?_) | (refine And.intro (Nat.le_of_ble_eq_true rfl) ?_))
  (refine ans_auto (by rfl) ?_ ?_ (by rfl)) <;> (repeat' (first | (exact trivial) | (with_reducible rfl) | (exact (rfl : _ = true)) | (exact (rfl : _ = some _)) | (exact (rfl : _ = none)) | (refine And.intro ?_ ?_) | ((show (_ : Int) = _); omega) | ((fail_if_success (with_reducible (show _ = _))); (show _ = _))))
set_option maxRecDepth 100000 in
set_option maxHeartbeats 4000000 in
theorem c_wholeForm (R : List Bs) (K need : Nat) (nm : Bs) (x : Wh) (g : WhOk R K need nm x) :
    CT Tryz.prog 105 [] [.agg [.sl 1 (strE R), .int .i64 (K : Int), .int .i64 (need : Int)], .int .i64 (x.hd.ho : Int), .str nm, .agg (whE x)] (.bool true) [] := by
  have hRl := strE_len R
  have g1 := g.rl
  have gk := g.k
  have gho := g.hd.1
  have c1 := c_TrustOkT R K need g.rl g.rw g.k g.n
  have c2 := c_inT (x := (x.hd.ho : Int)) (lo := 0) (hi := 2) (by omega)
  have c3 := c_ProofOk nm x.B x.S 16 (by have := g.nl; omega) (by have := g.bl; omega) g.fit g.fn (by have := g.sl; omega)
  rw [g.pf] at c3
  have c4 := c_haveWidth x.T (K : Int) 16 (by have := g.tl; omega)
  rw [i_wide g.tl g.tw] at c4
  have hSl := strE_len x.S
  have gsl := g.sl
  have hst := stE_len x.st
  have gst := g.st
  have e1 : IntKind.i64.wrap (((3 : Nat) : Int) - 1) = 2 := by rw [wrap_i64 (by omega) (by omega)]; omega
  have e2 : IntKind.i64.wrap (8 - (K : Int)) = ((8 - K : Nat) : Int) := by rw [wrap_i64 (by omega) (by omega)]; omega
  have ris := g.ris
  have ga := stE_get (l := x.st) (k := 0) (by omega)
  have gb := stE_get (l := x.st) (k := 1) (by omega)
  clear g
  obtain ⟨B, S, T, ⟨ho, ep, ro, pr⟩, ⟨sa, so, ss, si⟩, st⟩ := x
  simp only at gho c2 c3 c4 hSl gsl hst gst ris ga gb
  show CT _ _ _ [_, _, _, .agg [.sl 2 (lvE B), .sl 1 (strE S), .sl 1 (strE T), .int .i64 (ho : Int), .int .i64 (ep : Int), .str ro, .str pr, .int .i64 (sa : Int), .sl 1 (strE so), .sl 1 (strE ss), .sl 1 (strE si), .sl 5 (stE st)]] _ _
  generalize stE st = ST at hst ga gb ⊢
  generalize (stAt st 0).2 = s0 at ga
  generalize (stAt st 1).2 = s1 at gb
  generalize (stAt st 0).1 = b0 at ga ris
  generalize (stAt st 1).1 = b1 at gb ris
  obtain ⟨p1, p2, p3, p4⟩ := s0
  obtain ⟨q1, q2, q3, q4⟩ := s1
  have hnlt : ¬ (b0 : Int) ≥ (b1 : Int) := by omega
  have hst2 : ST.length = 2 := by omega
  have hS8 : (S.length : Int) = ((8 - K : Nat) : Int) := by omega
  have e3 : IntKind.i64.wrap (((1 : Nat) : Int) - 1) = ((0 : Nat) : Int) := by rw [wrap_i64 (by omega) (by omega)]; omega
  refine ct_intro tt4_ok 1 rfl Tryz.func105 rfl rfl rfl ?_
  repeat ((try conv => whnf); first | (refine c_call ([]) (c1) (by ((repeat' (first | (exact trivial) | (exact rfl) | (refine And.intro ?_ ?_))); first | done | fail)) (by ((repeat' (first | (exact trivial) | (exact rfl) | (refine And.intro ?_ ?_))); first | done | fail)) (by decide) (by rfl) (by first | exact .inl rfl | (refine .inr ⟨?_, ?_⟩ <;> simp [own2, own1, own0, ownE])) ?_) | (refine Exists.intro 3 (And.intro (hRl.trans g1) ?_)) | (refine Exists.intro _ (And.intro e1.symm ?_)) | (refine c_call ([]) (c2) (by ((repeat' (first | (exact trivial) | (exact rfl) | (refine And.intro ?_ ?_))); first | done | fail)) (by ((repeat' (first | (exact trivial) | (exact rfl) | (refine And.intro ?_ ?_))); first | done | fail)) (by decide) (by rfl) (by first | exact .inl rfl | (refine .inr ⟨?_, ?_⟩ <;> simp [own2, own1, own0, ownE])) ?_) | (refine c_call ([]) (c3) (by ((repeat' (first | (exact trivial) | (exact rfl) | (refine And.intro ?_ ?_))); first | done | fail)) (by ((repeat' (first | (exact trivial) | (exact rfl) | (refine And.intro ?_ ?_))); first | done | fail)) (by decide) (by rfl) (by first | exact .inl rfl | (refine .inr ⟨?_, ?_⟩ <;> simp [own2, own1, own0, ownE])) ?_) | (refine Exists.intro S.length (And.intro hSl ?_)) | (refine Exists.intro _ (And.intro e2.symm ?_)) | (refine c_call ([]) (c4) (by ((repeat' (first | (exact trivial) | (exact rfl) | (refine And.intro ?_ ?_))); first | done | fail)) (by ((repeat' (first | (exact trivial) | (exact rfl) | (refine And.intro ?_ ?_))); first | done | fail)) (by decide) (by rfl) (by first | exact .inl rfl | (refine .inr ⟨?_, ?_⟩ <;> simp [own2, own1, own0, ownE])) ?_) | (refine And.intro rfl ?_) | (refine w_addn (by omega) ?_) | (refine w_subn (by omega) ?_) | (refine w_add (by omega) ?_) | (refine w_sub (by omega) ?_) | (refine w_any (by omega) ?_) | (refine Exists.intro _ (And.intro rfl ?_)) | (with_reducible (refine cb_t rfl ?_)) | (with_reducible (refine cb_f rfl ?_)) | (refine cb_dt (by omega) ?_) | (refine cb_df (by omega) ?_) | (refine cb_nt (by omega) ?_) | (refine cb_nf (by omega) ?_) | (refine cb_t (by assumption) ?_) | (refine cb_f (by assumption) ?_) | (refine i_lt (by omega) ?_) | (refine i_le (by omega) ?_) | (refine i_cut (by omega) ?_) | (refine And.intro (by omega) ?_) | (refine And.intro trivial ?_) | (refine And.intro (by decide) ?_) | (refine And.intro (Nat.le_of_ble_eq_true rfl) ?_))
  refine loop_cut 0 ⟨[], [], 1⟩ Nat (fun i => ⟨[(7, .ptr 1 0 0), (8, .bool false), (9, .int .i64 (i : Int))], [(1, some (.box [.sl 2 (lvE B), .sl 1 (strE S), .sl 1 (strE T), .int .i64 (ho : Int), .int .i64 (ep : Int), .str ro, .str pr, .int .i64 (sa : Int), .sl 1 (strE so), .sl 1 (strE ss), .sl 1 (strE si), .sl 5 ST]))], 2⟩) (fun i => 1 ≤ i ∧ i ≤ 2) (fun i => 2 - i) 1 ⟨by omega, by omega⟩ ?_ ?_ ?_
  · (refine le_auto (by rfl) ?_ ?_) <;> (repeat' (first | (exact trivial) | (with_reducible rfl) | (exact (rfl : _ = true)) | (exact (rfl : _ = some _)) | (exact (rfl : _ = none)) | (refine And.intro ?_ ?_) | ((show (_ : Int) = _); omega) | ((fail_if_success (with_reducible (show _ = _))); (show _ = _)))) <;> first | rfl | decide
  · intro i hi
    by_cases h1 : i = 1
    · subst h1
      repeat ((try conv => whnf); first | (refine Exists.intro 2 (And.intro hst2 ?_)) | (refine Exists.intro _ (And.intro e3.symm ?_)) | (refine i_at ga ?_) | (refine i_at gb ?_) | (refine cb_df hnlt ?_) | (refine And.intro (by kernel_rfl) ?_) | (refine And.intro rfl ?_) | (refine w_addn (by omega) ?_) | (refine w_subn (by omega) ?_) | (refine w_add (by omega) ?_) | (refine w_sub (by omega) ?_) | (refine w_any (by omega) ?_) | (refine Exists.intro _ (And.intro rfl ?_)) | (with_reducible (refine cb_t rfl ?_)) | (with_reducible (refine cb_f rfl ?_)) | (refine cb_dt (by omega) ?_) | (refine cb_df (by omega) ?_) | (refine cb_nt (by omega) ?_) | (refine cb_nf (by omega) ?_) | (refine cb_t (by assumption) ?_) | (refine cb_f (by assumption) ?_) | (refine i_lt (by omega) ?_) | (refine i_le (by omega) ?_) | (refine i_cut (by omega) ?_) | (refine And.intro (by omega) ?_) | (refine And.intro trivial ?_) | (refine And.intro (by decide) ?_) | (refine And.intro (Nat.le_of_ble_eq_true rfl) ?_))
      refine ⟨2, ⟨by omega, by omega⟩, by omega, ?_⟩
      (refine le_auto (by rfl) ?_ ?_) <;> (repeat' (first | (exact trivial) | (with_reducible rfl) | (exact (rfl : _ = true)) | (exact (rfl : _ = some _)) | (exact (rfl : _ = none)) | (refine And.intro ?_ ?_) | ((show (_ : Int) = _); omega) | ((fail_if_success (with_reducible (show _ = _))); (show _ = _))))
    · have h2 : i = 2 := by have := hi.1; have := hi.2; omega
      subst h2
      repeat ((try conv => whnf); first | (refine Exists.intro 2 (And.intro hst2 ?_)) | (refine And.intro rfl ?_) | (refine w_addn (by omega) ?_) | (refine w_subn (by omega) ?_) | (refine w_add (by omega) ?_) | (refine w_sub (by omega) ?_) | (refine w_any (by omega) ?_) | (refine Exists.intro _ (And.intro rfl ?_)) | (with_reducible (refine cb_t rfl ?_)) | (with_reducible (refine cb_f rfl ?_)) | (refine cb_dt (by omega) ?_) | (refine cb_df (by omega) ?_) | (refine cb_nt (by omega) ?_) | (refine cb_nf (by omega) ?_) | (refine cb_t (by assumption) ?_) | (refine cb_f (by assumption) ?_) | (refine i_lt (by omega) ?_) | (refine i_le (by omega) ?_) | (refine i_cut (by omega) ?_) | (refine And.intro (by omega) ?_) | (refine And.intro trivial ?_) | (refine And.intro (by decide) ?_) | (refine And.intro (Nat.le_of_ble_eq_true rfl) ?_))
      (refine le_auto (by rfl) ?_ ?_) <;> (repeat' (first | (exact trivial) | (with_reducible rfl) | (exact (rfl : _ = true)) | (exact (rfl : _ = some _)) | (exact (rfl : _ = none)) | (refine And.intro ?_ ?_) | ((show (_ : Int) = _); omega) | ((fail_if_success (with_reducible (show _ = _))); (show _ = _))))
  · repeat ((try conv => whnf); first | (refine And.intro rfl ?_) | (refine w_addn (by omega) ?_) | (refine w_subn (by omega) ?_) | (refine w_add (by omega) ?_) | (refine w_sub (by omega) ?_) | (refine w_any (by omega) ?_) | (refine Exists.intro _ (And.intro rfl ?_)) | (with_reducible (refine cb_t rfl ?_)) | (with_reducible (refine cb_f rfl ?_)) | (refine cb_dt (by omega) ?_) | (refine cb_df (by omega) ?_) | (refine cb_nt (by omega) ?_) | (refine cb_nf (by omega) ?_) | (refine cb_t (by assumption) ?_) | (refine cb_f (by assumption) ?_) | (refine i_lt (by omega) ?_) | (refine i_le (by omega) ?_) | (refine i_cut (by omega) ?_) | (refine And.intro (by omega) ?_) | (refine And.intro trivial ?_) | (refine And.intro (by decide) ?_) | (refine And.intro (Nat.le_of_ble_eq_true rfl) ?_))
    (refine ans_auto (by rfl) ?_ ?_ (by rfl)) <;> (repeat' (first | (exact trivial) | (with_reducible rfl) | (exact (rfl : _ = true)) | (exact (rfl : _ = some _)) | (exact (rfl : _ = none)) | (refine And.intro ?_ ?_) | ((show (_ : Int) = _); omega) | ((fail_if_success (with_reducible (show _ = _))); (show _ = _))))
set_option maxRecDepth 100000 in
set_option maxHeartbeats 8000000 in
theorem c_Verify (R : List Bs) (K need : Nat) (nm : Bs) (x : Wh) (g : WhOk R K need nm x) (hrt : (foldS (ixB nm) 16 (8 - K) (leadB nm x.B x.S 16) x.T).2 = x.hd.ro) :
    CT Tryz.prog 31 [] [.agg [.sl 1 (strE R), .int .i64 (K : Int), .int .i64 (need : Int)], .int .i64 (x.hd.ho : Int), .str nm, .int .i64 (x.hd.ep : Int), .agg (whE x)] (.tup [.str ((leafGet x.B nm).getD []), .bool (leafGet x.B nm).isSome, .int .i64 0]) [] := by
  have hRl := strE_len R
  have g1 := g.rl
  have gk := g.k
  have gn := g.n
  have gho := g.hd.1
  have gbl := g.bl
  have c1 := c_wholeForm R K need nm x g
  have gr := strE_get (ps := R) (k := x.hd.ho) (by omega)
  have c2 := c_SealOk (pAt R x.hd.ho) x.hd x.sg g.hd g.sg g.sa
  rw [decide_eq_true g.sr] at c2
  have c3 : CT Tryz.prog 19 [] [.str nm, .agg [.sl 2 (lvE x.B), .sl 1 (strE x.S)], .int .i64 16] (.str (leadB nm x.B x.S 16)) [] := c_ProofHash nm x.B x.S 16 g.pf
  have c4 := c_IndexOf nm (by have := g.nl; omega)
  have hle : (leadB nm x.B x.S 16).length ≤ 200 := by have := lead_len nm x.B x.S; omega
  have c5 := c_FoldUp (leadB nm x.B x.S 16) (ixB nm) K x.T (ixB_lt nm) (by omega) g.tl hle (fun y hy => by have := g.tw y hy; omega)
  rw [hrt] at c5
  have c6 := c_ProofSays x.B x.S nm (by omega)
  have hst := stE_len x.st
  have gst := g.st
  have sok : ∀ k, k < 2 → ∃ (b : Nat) (s : Sg), (stE x.st)[k]? = some (T.int .i64 (b : Int) :: sgE s) ∧ b ≤ 2 ∧ b ≠ x.hd.ho ∧ (strE R)[b]? = some [.str (pAt R b)] ∧ CT Tryz.prog 109 [] [.str (pAt R b), .agg (hdE x.hd), .agg (sgE s)] (.bool true) [] := fun k hk => by
    obtain ⟨a1, a2, a3, a4, a5⟩ := g.sh k hk
    have c7 := c_StampOk (pAt R (stAt x.st k).1) x.hd (stAt x.st k).2 g.hd a3 a4
    rw [decide_eq_true a5] at c7
    exact ⟨_, _, stE_get (by omega), a1, a2, strE_get (ps := R) (k := (stAt x.st k).1) (by omega), c7⟩
  clear g hrt hle
  generalize leadB nm x.B x.S 16 = ld at c3 c5
  generalize ixB nm = ix at c4 c5
  generalize (leafGet x.B nm).getD [] = v at c6 ⊢
  generalize (leafGet x.B nm).isSome = has at c6 ⊢
  obtain ⟨B, S, T, ⟨ho, ep, ro, pr⟩, ⟨sa, so, ss, si⟩, st⟩ := x
  simp only at gho gbl c1 gr c2 c3 c5 c6 hst gst sok
  change CT _ _ _ [_, _, _, .agg [.sl 2 (lvE B), .sl 1 (strE S), .sl 1 (strE T), .int .i64 (ho : Int), .int .i64 (ep : Int), .str ro, .str pr, .int .i64 (sa : Int), .sl 1 (strE so), .sl 1 (strE ss), .sl 1 (strE si), .sl 5 (stE st)]] _ _ at c1
  show CT _ _ _ [_, .int .i64 (ho : Int), _, .int .i64 (ep : Int), .agg [.sl 2 (lvE B), .sl 1 (strE S), .sl 1 (strE T), .int .i64 (ho : Int), .int .i64 (ep : Int), .str ro, .str pr, .int .i64 (sa : Int), .sl 1 (strE so), .sl 1 (strE ss), .sl 1 (strE si), .sl 5 (stE st)]] _ _
  generalize stE st = ST at hst sok c1 ⊢
  have hst2 : ST.length = 2 := by omega
  have er : ro = ro := rfl
  have e1 : IntKind.i64.wrap (((3 : Nat) : Int) - 1) = 2 := by rw [wrap_i64 (by omega) (by omega)]; omega
  refine ct_intro tt4_ok 1 rfl Tryz.func31 rfl rfl rfl ?_
  repeat ((try conv => whnf); first | (refine c_call ([]) (c1) (by ((repeat' (first | (exact trivial) | (exact rfl) | (refine And.intro ?_ ?_))); first | done | fail)) (by ((repeat' (first | (exact trivial) | (exact rfl) | (refine And.intro ?_ ?_))); first | done | fail)) (by decide) (by rfl) (by first | exact .inl rfl | (refine .inr ⟨?_, ?_⟩ <;> simp [own2, own1, own0, ownE])) ?_) | (refine i_at gr ?_) | (refine c_call ([]) (c2) (by ((repeat' (first | (exact trivial) | (exact rfl) | (refine And.intro ?_ ?_))); first | done | fail)) (by ((repeat' (first | (exact trivial) | (exact rfl) | (refine And.intro ?_ ?_))); first | done | fail)) (by decide) (by rfl) (by first | exact .inl rfl | (refine .inr ⟨?_, ?_⟩ <;> simp [own2, own1, own0, ownE])) ?_) | (refine c_call ([]) (c3) (by ((repeat' (first | (exact trivial) | (exact rfl) | (refine And.intro ?_ ?_))); first | done | fail)) (by ((repeat' (first | (exact trivial) | (exact rfl) | (refine And.intro ?_ ?_))); first | done | fail)) (by decide) (by rfl) (by first | exact .inl rfl | (refine .inr ⟨?_, ?_⟩ <;> simp [own2, own1, own0, ownE])) ?_) | (refine c_call ([]) (c4) (by ((repeat' (first | (exact trivial) | (exact rfl) | (refine And.intro ?_ ?_))); first | done | fail)) (by ((repeat' (first | (exact trivial) | (exact rfl) | (refine And.intro ?_ ?_))); first | done | fail)) (by decide) (by rfl) (by first | exact .inl rfl | (refine .inr ⟨?_, ?_⟩ <;> simp [own2, own1, own0, ownE])) ?_) | (refine c_call ([]) (c5) (by ((repeat' (first | (exact trivial) | (exact rfl) | (refine And.intro ?_ ?_))); first | done | fail)) (by ((repeat' (first | (exact trivial) | (exact rfl) | (refine And.intro ?_ ?_))); first | done | fail)) (by decide) (by rfl) (by first | exact .inl rfl | (refine .inr ⟨?_, ?_⟩ <;> simp [own2, own1, own0, ownE])) ?_) | (refine cb_nf er ?_) | (refine Exists.intro 2 (And.intro hst2 ?_)) | (refine And.intro (by kernel_rfl) ?_) | (refine And.intro rfl ?_) | (refine w_addn (by omega) ?_) | (refine w_subn (by omega) ?_) | (refine w_add (by omega) ?_) | (refine w_sub (by omega) ?_) | (refine w_any (by omega) ?_) | (refine Exists.intro _ (And.intro rfl ?_)) | (with_reducible (refine cb_t rfl ?_)) | (with_reducible (refine cb_f rfl ?_)) | (refine cb_dt (by omega) ?_) | (refine cb_df (by omega) ?_) | (refine cb_nt (by omega) ?_) | (refine cb_nf (by omega) ?_) | (refine cb_t (by assumption) ?_) | (refine cb_f (by assumption) ?_) | (refine i_lt (by omega) ?_) | (refine i_le (by omega) ?_) | (refine i_cut (by omega) ?_) | (refine And.intro (by omega) ?_) | (refine And.intro trivial ?_) | (refine And.intro (by decide) ?_) | (refine And.intro (Nat.le_of_ble_eq_true rfl) ?_))
  refine loop_cut 1 ⟨[(2, .str nm), (5, .ptr 1 0 0), (9, .ptr 2 0 0), (10, .str []), (11, .bool false), (12, .int .i64 0), (14, .int .i64 (need : Int))], [(1, some (.box [.sl 1 (strE R), .int .i64 (K : Int), .int .i64 (need : Int)])), (2, some (.box [.sl 2 (lvE B), .sl 1 (strE S), .sl 1 (strE T), .int .i64 (ho : Int), .int .i64 (ep : Int), .str ro, .str pr, .int .i64 (sa : Int), .sl 1 (strE so), .sl 1 (strE ss), .sl 1 (strE si), .sl 5 ST]))], 3⟩ Nat (fun k => ⟨[(1, .int .i64 (ho : Int)), (2, .str nm), (5, .ptr 1 0 0), (9, .ptr 2 0 0), (10, .str []), (11, .bool false), (12, .int .i64 0), (13, .ptr 3 0 0), (14, .int .i64 ((min k need : Nat) : Int)), (66, .sl 5 ST), (67, .int .i64 2), (68, .int .i64 (k : Int))], [(1, some (.box [.sl 1 (strE R), .int .i64 (K : Int), .int .i64 (need : Int)])), (2, some (.box [.sl 2 (lvE B), .sl 1 (strE S), .sl 1 (strE T), .int .i64 (ho : Int), .int .i64 (ep : Int), .str ro, .str pr, .int .i64 (sa : Int), .sl 1 (strE so), .sl 1 (strE ss), .sl 1 (strE si), .sl 5 ST])), (3, some (.box [.int .i64 (ho : Int), .int .i64 (ep : Int), .str ro, .str pr]))], 4⟩) (fun k => k ≤ 2) (fun k => 2 - k) 0 (by omega) ?_ ?_ ?_
  · (refine le_auto (by rfl) ?_ ?_) <;> (repeat' (first | (exact trivial) | (with_reducible rfl) | (exact (rfl : _ = true)) | (exact (rfl : _ = some _)) | (exact (rfl : _ = none)) | (refine And.intro ?_ ?_) | ((show (_ : Int) = _); omega) | ((fail_if_success (with_reducible (show _ = _))); (show _ = _)))) <;> first | rfl | decide | (show ((min 0 need : Nat) : Int) = 0; omega) | (show (0 : Int) = ((min 0 need : Nat) : Int); omega)
  · intro k hk
    by_cases hlt : k < 2
    · have hk2 : (k : Int) < 2 := by omega
      obtain ⟨b, s, gs, hb, hne, gb, cs⟩ := sok k hlt
      have cb := c_inT (x := (b : Int)) (lo := 0) (hi := 2) (by omega)
      have hne2 : ¬ (b : Int) = (ho : Int) := by omega
      obtain ⟨s1, s2, s3, s4⟩ := s
      generalize pAt R b = rb at gb cs
      by_cases hmn : k < need
      · have hm : min k need = k := by omega
        have hm2 : min (k + 1) need = k + 1 := by omega
        have hm3 : (k : Int) < (need : Int) := by omega
        rw [hm]
        repeat ((try conv => whnf); first | (refine i_at gs ?_) | (refine Exists.intro 3 (And.intro (hRl.trans g1) ?_)) | (refine Exists.intro _ (And.intro e1.symm ?_)) | (refine c_call ([]) (cb) (by ((repeat' (first | (exact trivial) | (exact rfl) | (refine And.intro ?_ ?_))); first | done | fail)) (by ((repeat' (first | (exact trivial) | (exact rfl) | (refine And.intro ?_ ?_))); first | done | fail)) (by decide) (by rfl) (by first | exact .inl rfl | (refine .inr ⟨?_, ?_⟩ <;> simp [own2, own1, own0, ownE])) ?_) | (refine i_at gb ?_) | (refine c_call ([]) (cs) (by ((repeat' (first | (exact trivial) | (exact rfl) | (refine And.intro ?_ ?_))); first | done | fail)) (by ((repeat' (first | (exact trivial) | (exact rfl) | (refine And.intro ?_ ?_))); first | done | fail)) (by decide) (by rfl) (by first | exact .inl rfl | (refine .inr ⟨?_, ?_⟩ <;> simp [own2, own1, own0, ownE])) ?_) | (refine And.intro (by kernel_rfl) ?_) | (refine And.intro rfl ?_) | (refine w_addn (by omega) ?_) | (refine w_subn (by omega) ?_) | (refine w_add (by omega) ?_) | (refine w_sub (by omega) ?_) | (refine w_any (by omega) ?_) | (refine Exists.intro _ (And.intro rfl ?_)) | (with_reducible (refine cb_t rfl ?_)) | (with_reducible (refine cb_f rfl ?_)) | (refine cb_dt (by omega) ?_) | (refine cb_df (by omega) ?_) | (refine cb_nt (by omega) ?_) | (refine cb_nf (by omega) ?_) | (refine cb_t (by assumption) ?_) | (refine cb_f (by assumption) ?_) | (refine i_lt (by omega) ?_) | (refine i_le (by omega) ?_) | (refine i_cut (by omega) ?_) | (refine And.intro (by omega) ?_) | (refine And.intro trivial ?_) | (refine And.intro (by decide) ?_) | (refine And.intro (Nat.le_of_ble_eq_true rfl) ?_))
        refine ⟨k + 1, by omega, by omega, ?_⟩
        rw [hm2]
        (refine le_auto (by rfl) ?_ ?_) <;> (repeat' (first | (exact trivial) | (with_reducible rfl) | (exact (rfl : _ = true)) | (exact (rfl : _ = some _)) | (exact (rfl : _ = none)) | (refine And.intro ?_ ?_) | ((show (_ : Int) = _); omega) | ((fail_if_success (with_reducible (show _ = _))); (show _ = _))))
      · have hm : min k need = need := by omega
        have hm2 : min (k + 1) need = need := by omega
        rw [hm]
        repeat ((try conv => whnf); first | (refine i_at gs ?_) | (refine Exists.intro 3 (And.intro (hRl.trans g1) ?_)) | (refine Exists.intro _ (And.intro e1.symm ?_)) | (refine c_call ([]) (cb) (by ((repeat' (first | (exact trivial) | (exact rfl) | (refine And.intro ?_ ?_))); first | done | fail)) (by ((repeat' (first | (exact trivial) | (exact rfl) | (refine And.intro ?_ ?_))); first | done | fail)) (by decide) (by rfl) (by first | exact .inl rfl | (refine .inr ⟨?_, ?_⟩ <;> simp [own2, own1, own0, ownE])) ?_) | (refine i_at gb ?_) | (refine c_call ([]) (cs) (by ((repeat' (first | (exact trivial) | (exact rfl) | (refine And.intro ?_ ?_))); first | done | fail)) (by ((repeat' (first | (exact trivial) | (exact rfl) | (refine And.intro ?_ ?_))); first | done | fail)) (by decide) (by rfl) (by first | exact .inl rfl | (refine .inr ⟨?_, ?_⟩ <;> simp [own2, own1, own0, ownE])) ?_) | (refine And.intro (by kernel_rfl) ?_) | (refine And.intro rfl ?_) | (refine w_addn (by omega) ?_) | (refine w_subn (by omega) ?_) | (refine w_add (by omega) ?_) | (refine w_sub (by omega) ?_) | (refine w_any (by omega) ?_) | (refine Exists.intro _ (And.intro rfl ?_)) | (with_reducible (refine cb_t rfl ?_)) | (with_reducible (refine cb_f rfl ?_)) | (refine cb_dt (by omega) ?_) | (refine cb_df (by omega) ?_) | (refine cb_nt (by omega) ?_) | (refine cb_nf (by omega) ?_) | (refine cb_t (by assumption) ?_) | (refine cb_f (by assumption) ?_) | (refine i_lt (by omega) ?_) | (refine i_le (by omega) ?_) | (refine i_cut (by omega) ?_) | (refine And.intro (by omega) ?_) | (refine And.intro trivial ?_) | (refine And.intro (by decide) ?_) | (refine And.intro (Nat.le_of_ble_eq_true rfl) ?_))
        refine ⟨k + 1, by omega, by omega, ?_⟩
        rw [hm2]
        (refine le_auto (by rfl) ?_ ?_) <;> (repeat' (first | (exact trivial) | (with_reducible rfl) | (exact (rfl : _ = true)) | (exact (rfl : _ = some _)) | (exact (rfl : _ = none)) | (refine And.intro ?_ ?_) | ((show (_ : Int) = _); omega) | ((fail_if_success (with_reducible (show _ = _))); (show _ = _))))
    · obtain rfl : k = 2 := by omega
      have hm : min 2 need = need := by omega
      rw [hm]
      repeat ((try conv => whnf); first | (refine And.intro rfl ?_) | (refine w_addn (by omega) ?_) | (refine w_subn (by omega) ?_) | (refine w_add (by omega) ?_) | (refine w_sub (by omega) ?_) | (refine w_any (by omega) ?_) | (refine Exists.intro _ (And.intro rfl ?_)) | (with_reducible (refine cb_t rfl ?_)) | (with_reducible (refine cb_f rfl ?_)) | (refine cb_dt (by omega) ?_) | (refine cb_df (by omega) ?_) | (refine cb_nt (by omega) ?_) | (refine cb_nf (by omega) ?_) | (refine cb_t (by assumption) ?_) | (refine cb_f (by assumption) ?_) | (refine i_lt (by omega) ?_) | (refine i_le (by omega) ?_) | (refine i_cut (by omega) ?_) | (refine And.intro (by omega) ?_) | (refine And.intro trivial ?_) | (refine And.intro (by decide) ?_) | (refine And.intro (Nat.le_of_ble_eq_true rfl) ?_))
      (refine le_auto (by rfl) ?_ ?_) <;> (repeat' (first | (exact trivial) | (with_reducible rfl) | (exact (rfl : _ = true)) | (exact (rfl : _ = some _)) | (exact (rfl : _ = none)) | (refine And.intro ?_ ?_) | ((show (_ : Int) = _); omega) | ((fail_if_success (with_reducible (show _ = _))); (show _ = _))))
  · repeat ((try conv => whnf); first | (refine c_call ([]) (c6) (by ((repeat' (first | (exact trivial) | (exact rfl) | (refine And.intro ?_ ?_))); first | done | fail)) (by ((repeat' (first | (exact trivial) | (exact rfl) | (refine And.intro ?_ ?_))); first | done | fail)) (by decide) (by rfl) (by first | exact .inl rfl | (refine .inr ⟨?_, ?_⟩ <;> simp [own2, own1, own0, ownE])) ?_) | (refine And.intro rfl ?_) | (refine w_addn (by omega) ?_) | (refine w_subn (by omega) ?_) | (refine w_add (by omega) ?_) | (refine w_sub (by omega) ?_) | (refine w_any (by omega) ?_) | (refine Exists.intro _ (And.intro rfl ?_)) | (with_reducible (refine cb_t rfl ?_)) | (with_reducible (refine cb_f rfl ?_)) | (refine cb_dt (by omega) ?_) | (refine cb_df (by omega) ?_) | (refine cb_nt (by omega) ?_) | (refine cb_nf (by omega) ?_) | (refine cb_t (by assumption) ?_) | (refine cb_f (by assumption) ?_) | (refine i_lt (by omega) ?_) | (refine i_le (by omega) ?_) | (refine i_cut (by omega) ?_) | (refine And.intro (by omega) ?_) | (refine And.intro trivial ?_) | (refine And.intro (by decide) ?_) | (refine And.intro (Nat.le_of_ble_eq_true rfl) ?_))
    (refine ans_auto (by rfl) ?_ ?_ (by rfl)) <;> (repeat' (first | (exact trivial) | (with_reducible rfl) | (exact (rfl : _ = true)) | (exact (rfl : _ = some _)) | (exact (rfl : _ = none)) | (refine And.intro ?_ ?_) | ((show (_ : Int) = _); omega) | ((fail_if_success (with_reducible (show _ = _))); (show _ = _))))
end Go.Proofs.YtigfpjnjjndenaaGreatDoor
namespace Go.Proofs.YtigfpjnjjndenaaGreatDoor
open Go.RowKit Pl
set_option linter.unusedVariables false
set_option linter.unusedSimpArgs false
attribute [local irreducible] CondB CallP LoopW AnsP LeP

set_option maxRecDepth 100000 in
set_option maxHeartbeats 2000000 in
theorem c_SigText (s : Sg) (g : s.good) : CT Tryz.prog 95 [] [.agg (sgE s)] (.tup [.str (sigB s), .bool true]) [] := by
  have c1 := c_formedT s g
  obtain ⟨a, op, sh, si⟩ := s
  obtain ⟨h1, ⟨h2, h3⟩, ⟨h4, h5⟩, h6, h7⟩ := g
  simp only at h1 h2 h3 h4 h5 h6 h7
  have c2 := c_joined op (by omega) (fun x hx => by have := h3 x hx; omega)
  have c3 := c_joined sh (by omega) (fun x hx => by have := h5 x hx; omega)
  have c4 := c_joined si (by omega) (fun x hx => by have := h7 x hx; omega)
  have l2 := flat16 h3
  have l3 := flat16 h5
  have l4 := flat16 h7
  show CT _ _ _ _ (.tup [.str ([UInt8.ofNat a] ++ op.flatten ++ sh.flatten ++ si.flatten), _]) _
  generalize op.flatten = f2 at c2 l2 ⊢
  generalize sh.flatten = f3 at c3 l3 ⊢
  generalize si.flatten = f4 at c4 l4 ⊢
  refine ct_intro tt4_ok 1 rfl Tryz.func95 rfl rfl rfl ?_
  repeat ((try conv => whnf); first | (refine c_call ([]) (c1) (by ((repeat' (first | (exact trivial) | (exact rfl) | (refine And.intro ?_ ?_))); first | done | fail)) (by ((repeat' (first | (exact trivial) | (exact rfl) | (refine And.intro ?_ ?_))); first | done | fail)) (by decide) (by rfl) (by first | exact .inl rfl | (refine .inr ⟨?_, ?_⟩ <;> simp [own2, own1, own0, ownE])) ?_) | (refine w_u8 ?_) | (refine Exists.intro [UInt8.ofNat a] (And.intro rfl ?_)) | (refine c_call ([]) (c2) (by ((repeat' (first | (exact trivial) | (exact rfl) | (refine And.intro ?_ ?_))); first | done | fail)) (by ((repeat' (first | (exact trivial) | (exact rfl) | (refine And.intro ?_ ?_))); first | done | fail)) (by decide) (by rfl) (by first | exact .inl rfl | (refine .inr ⟨?_, ?_⟩ <;> simp [own2, own1, own0, ownE])) ?_) | (refine c_call ([]) (c3) (by ((repeat' (first | (exact trivial) | (exact rfl) | (refine And.intro ?_ ?_))); first | done | fail)) (by ((repeat' (first | (exact trivial) | (exact rfl) | (refine And.intro ?_ ?_))); first | done | fail)) (by decide) (by rfl) (by first | exact .inl rfl | (refine .inr ⟨?_, ?_⟩ <;> simp [own2, own1, own0, ownE])) ?_) | (refine c_call ([]) (c4) (by ((repeat' (first | (exact trivial) | (exact rfl) | (refine And.intro ?_ ?_))); first | done | fail)) (by ((repeat' (first | (exact trivial) | (exact rfl) | (refine And.intro ?_ ?_))); first | done | fail)) (by decide) (by rfl) (by first | exact .inl rfl | (refine .inr ⟨?_, ?_⟩ <;> simp [own2, own1, own0, ownE])) ?_) | (refine And.intro (by simp; omega) ?_) | (refine And.intro (by kernel_rfl) ?_) | (refine And.intro rfl ?_) | (refine w_addn (by omega) ?_) | (refine w_subn (by omega) ?_) | (refine w_add (by omega) ?_) | (refine w_sub (by omega) ?_) | (refine w_any (by omega) ?_) | (refine Exists.intro _ (And.intro rfl ?_)) | (with_reducible (refine cb_t rfl ?_)) | (with_reducible (refine cb_f rfl ?_)) | (refine cb_dt (by omega) ?_) | (refine cb_df (by omega) ?_) | (refine cb_nt (by omega) ?_) | (refine cb_nf (by omega) ?_) | (refine cb_t (by assumption) ?_) | (refine cb_f (by assumption) ?_) | (refine i_lt (by omega) ?_) | (refine i_le (by omega) ?_) | (refine i_cut (by omega) ?_) | (refine And.intro (by omega) ?_) | (refine And.intro trivial ?_) | (refine And.intro (by decide) ?_) | (refine And.intro (Nat.le_of_ble_eq_true rfl) ?_))
  (refine ans_auto (by rfl) ?_ ?_ (by rfl)) <;> (repeat' (first | (exact trivial) | (with_reducible rfl) | (exact (rfl : _ = true)) | (exact (rfl : _ = some _)) | (exact (rfl : _ = none)) | (refine And.intro ?_ ?_) | ((show (_ : Int) = _); omega) | ((fail_if_success (with_reducible (show _ = _))); (show _ = _))))
set_option maxRecDepth 100000 in
set_option maxHeartbeats 2000000 in
theorem c_SealText (h : Hd) (s : Sg) (g : h.good) (gs : s.good) : CT Tryz.prog 91 [] [.agg (hdE h ++ sgE s)] (.tup [.str (sealB h s), .bool true]) [] := by
  have c1 := c_HeadText h g
  have c2 := c_SigText s gs
  have hl := headB_len g
  have hs := sigB_len gs
  have c3 := c_shortText (headB h) (by omega)
  have hsl := shortText_le (l := headB h) (by omega)
  show CT _ _ _ _ (.tup [.str (shortText (headB h) ++ sigB s), _]) _
  generalize shortText (headB h) = t1 at c3 hsl ⊢
  generalize headB h = t0 at c1 c3 hl hsl
  generalize sigB s = t2 at c2 hs ⊢
  obtain ⟨ho, ep, ro, pr⟩ := h
  obtain ⟨a, op, sh, si⟩ := s
  refine ct_intro tt4_ok 1 rfl Tryz.func91 rfl rfl rfl ?_
  repeat ((try conv => whnf); first | (refine c_call ([]) (c1) (by ((repeat' (first | (exact trivial) | (exact rfl) | (refine And.intro ?_ ?_))); first | done | fail)) (by ((repeat' (first | (exact trivial) | (exact rfl) | (refine And.intro ?_ ?_))); first | done | fail)) (by decide) (by rfl) (by first | exact .inl rfl | (refine .inr ⟨?_, ?_⟩ <;> simp [own2, own1, own0, ownE])) ?_) | (refine c_call ([]) (c2) (by ((repeat' (first | (exact trivial) | (exact rfl) | (refine And.intro ?_ ?_))); first | done | fail)) (by ((repeat' (first | (exact trivial) | (exact rfl) | (refine And.intro ?_ ?_))); first | done | fail)) (by decide) (by rfl) (by first | exact .inl rfl | (refine .inr ⟨?_, ?_⟩ <;> simp [own2, own1, own0, ownE])) ?_) | (refine c_call ([]) (c3) (by ((repeat' (first | (exact trivial) | (exact rfl) | (refine And.intro ?_ ?_))); first | done | fail)) (by ((repeat' (first | (exact trivial) | (exact rfl) | (refine And.intro ?_ ?_))); first | done | fail)) (by decide) (by rfl) (by first | exact .inl rfl | (refine .inr ⟨?_, ?_⟩ <;> simp [own2, own1, own0, ownE])) ?_) | (refine And.intro (by omega) ?_) | (refine And.intro (by kernel_rfl) ?_) | (refine And.intro rfl ?_) | (refine w_addn (by omega) ?_) | (refine w_subn (by omega) ?_) | (refine w_add (by omega) ?_) | (refine w_sub (by omega) ?_) | (refine w_any (by omega) ?_) | (refine Exists.intro _ (And.intro rfl ?_)) | (with_reducible (refine cb_t rfl ?_)) | (with_reducible (refine cb_f rfl ?_)) | (refine cb_dt (by omega) ?_) | (refine cb_df (by omega) ?_) | (refine cb_nt (by omega) ?_) | (refine cb_nf (by omega) ?_) | (refine cb_t (by assumption) ?_) | (refine cb_f (by assumption) ?_) | (refine i_lt (by omega) ?_) | (refine i_le (by omega) ?_) | (refine i_cut (by omega) ?_) | (refine And.intro (by omega) ?_) | (refine And.intro trivial ?_) | (refine And.intro (by decide) ?_) | (refine And.intro (Nat.le_of_ble_eq_true rfl) ?_))
  (refine ans_auto (by rfl) ?_ ?_ (by rfl)) <;> (repeat' (first | (exact trivial) | (with_reducible rfl) | (exact (rfl : _ = true)) | (exact (rfl : _ = some _)) | (exact (rfl : _ = none)) | (refine And.intro ?_ ?_) | ((show (_ : Int) = _); omega) | ((fail_if_success (with_reducible (show _ = _))); (show _ = _))))
set_option maxRecDepth 100000 in
set_option maxHeartbeats 8000000 in
theorem c_WholeText (R : List Bs) (K need : Nat) (nm : Bs) (x : Wh) (g : WhOk R K need nm x) (hp : proofOkB x.B x.S 16 = true) (hpl : (proofText x.B x.S).length ≤ 20000) :
    CT Tryz.prog 26 [] [.agg (whE x)] (.tup [.str (wholeB x), .bool true]) [] := by
  have c1 : CT Tryz.prog 90 [] [.agg [.sl 2 (lvE x.B), .sl 1 (strE x.S)], .int .i64 16] (.tup [.str (proofText x.B x.S), .bool true]) [] := c_ProofText x.B x.S 16 hp
  have c2 := c_SealText x.hd x.sg g.hd g.sg
  have gt := g.tl
  have gk := g.k
  have hTl := strE_len x.T
  have c3 := c_haveWidth x.T (x.T.length : Int) 16 (by omega)
  rw [i_wide rfl g.tw] at c3
  have c4 := c_shortText (proofText x.B x.S) (by omega)
  have l4 := shortText_le (l := proofText x.B x.S) (by omega)
  have c5 := c_varText x.T.length (by omega)
  have l5 := varTextL (n := x.T.length) (by omega)
  have c6 := c_joined x.T (by omega) (fun y hy => by have := g.tw y hy; omega)
  have l6 := flat16 g.tw
  have hsb : (sealB x.hd x.sg).length ≤ 400 := by
    have a := headB_len g.hd
    have b := sigB_len g.sg
    have c := shortText_le (l := headB x.hd) (by omega)
    rw [sealB, List.length_append]
    omega
  have c7 := c_shortText (sealB x.hd x.sg) (by omega)
  have l7 := shortText_le (l := sealB x.hd x.sg) (by omega)
  have gst := g.st
  have hst := stE_len x.st
  have c8 := c_varText x.st.length (by omega)
  have l8 := varTextL (n := x.st.length) (by omega)
  have hw : wholeB x = shortText (proofText x.B x.S) ++ varText x.T.length ++ x.T.flatten ++ shortText (sealB x.hd x.sg) ++ varText x.st.length ++ stB x.st 2 := by rw [wholeB, preB, gst]
  have sok : ∀ k, k < 2 → ∃ (b : Nat) (s : Sg), (stE x.st)[k]? = some (T.int .i64 (b : Int) :: sgE s) ∧ b ≤ 2 ∧ s.good ∧ stB x.st (k + 1) = stB x.st k ++ ([UInt8.ofNat b] ++ sigB s) := fun k hk => by
    obtain ⟨a1, a2, a3, a4, a5⟩ := g.sh k hk
    exact ⟨_, _, stE_get (by omega), a1, a3, rfl⟩
  have slen : ∀ k, k ≤ 2 → (stB x.st k).length = 322 * k := fun k hk => stB_len k fun j hj => (g.sh j (by omega)).2.2.1
  have s0 : stB x.st 0 = [] := rfl
  rw [hw]
  clear hw g
  obtain ⟨B, S, T, ⟨ho, ep, ro, pr⟩, ⟨sa, so, ss, si⟩, st⟩ := x
  simp only at c1 c2 gt hTl c3 c4 l4 c5 l5 c6 l6 hsb c7 l7 gst hst c8 l8 sok slen s0 hpl ⊢
  rw [gst] at c8 l8 ⊢
  rw [gt] at c3 c5 l5 l6 ⊢
  show CT _ _ _ [.agg [.sl 2 (lvE B), .sl 1 (strE S), .sl 1 (strE T), .int .i64 (ho : Int), .int .i64 (ep : Int), .str ro, .str pr, .int .i64 (sa : Int), .sl 1 (strE so), .sl 1 (strE ss), .sl 1 (strE si), .sl 5 (stE st)]] _ _
  generalize stE st = ST at hst sok ⊢
  generalize stB st = SB at sok slen s0 ⊢
  have hst2 : ST.length = 2 := by omega
  generalize shortText (proofText B S) = t4 at c4 l4 ⊢
  generalize proofText B S = t1 at c1 c4 l4 hpl
  generalize varText K = t5 at c5 l5 ⊢
  generalize T.flatten = t6 at c6 l6 ⊢
  generalize shortText (sealB _ _) = t7 at c7 l7 ⊢
  generalize sealB _ _ = t2 at c2 c7 l7 hsb
  generalize varText 2 = t8 at c8 l8 ⊢
  have hgt : ¬ (K : Int) > 2 := by omega
  refine ct_intro tt4_ok 1 rfl Tryz.func26 rfl rfl rfl ?_
  repeat ((try conv => whnf); first | (refine c_call ([]) (c1) (by ((repeat' (first | (exact trivial) | (exact rfl) | (refine And.intro ?_ ?_))); first | done | fail)) (by ((repeat' (first | (exact trivial) | (exact rfl) | (refine And.intro ?_ ?_))); first | done | fail)) (by decide) (by rfl) (by first | exact .inl rfl | (refine .inr ⟨?_, ?_⟩ <;> simp [own2, own1, own0, ownE])) ?_) | (refine c_call ([]) (c2) (by ((repeat' (first | (exact trivial) | (exact rfl) | (refine And.intro ?_ ?_))); first | done | fail)) (by ((repeat' (first | (exact trivial) | (exact rfl) | (refine And.intro ?_ ?_))); first | done | fail)) (by decide) (by rfl) (by first | exact .inl rfl | (refine .inr ⟨?_, ?_⟩ <;> simp [own2, own1, own0, ownE])) ?_) | (refine Exists.intro K (And.intro (hTl.trans gt) ?_)) | (refine c_call ([]) (c3) (by ((repeat' (first | (exact trivial) | (exact rfl) | (refine And.intro ?_ ?_))); first | done | fail)) (by ((repeat' (first | (exact trivial) | (exact rfl) | (refine And.intro ?_ ?_))); first | done | fail)) (by decide) (by rfl) (by first | exact .inl rfl | (refine .inr ⟨?_, ?_⟩ <;> simp [own2, own1, own0, ownE])) ?_) | (refine Exists.intro 2 (And.intro hst2 ?_)) | (refine c_call ([]) (c4) (by ((repeat' (first | (exact trivial) | (exact rfl) | (refine And.intro ?_ ?_))); first | done | fail)) (by ((repeat' (first | (exact trivial) | (exact rfl) | (refine And.intro ?_ ?_))); first | done | fail)) (by decide) (by rfl) (by first | exact .inl rfl | (refine .inr ⟨?_, ?_⟩ <;> simp [own2, own1, own0, ownE])) ?_) | (refine c_call ([]) (c5) (by ((repeat' (first | (exact trivial) | (exact rfl) | (refine And.intro ?_ ?_))); first | done | fail)) (by ((repeat' (first | (exact trivial) | (exact rfl) | (refine And.intro ?_ ?_))); first | done | fail)) (by decide) (by rfl) (by first | exact .inl rfl | (refine .inr ⟨?_, ?_⟩ <;> simp [own2, own1, own0, ownE])) ?_) | (refine c_call ([]) (c6) (by ((repeat' (first | (exact trivial) | (exact rfl) | (refine And.intro ?_ ?_))); first | done | fail)) (by ((repeat' (first | (exact trivial) | (exact rfl) | (refine And.intro ?_ ?_))); first | done | fail)) (by decide) (by rfl) (by first | exact .inl rfl | (refine .inr ⟨?_, ?_⟩ <;> simp [own2, own1, own0, ownE])) ?_) | (refine c_call ([]) (c7) (by ((repeat' (first | (exact trivial) | (exact rfl) | (refine And.intro ?_ ?_))); first | done | fail)) (by ((repeat' (first | (exact trivial) | (exact rfl) | (refine And.intro ?_ ?_))); first | done | fail)) (by decide) (by rfl) (by first | exact .inl rfl | (refine .inr ⟨?_, ?_⟩ <;> simp [own2, own1, own0, ownE])) ?_) | (refine c_call ([]) (c8) (by ((repeat' (first | (exact trivial) | (exact rfl) | (refine And.intro ?_ ?_))); first | done | fail)) (by ((repeat' (first | (exact trivial) | (exact rfl) | (refine And.intro ?_ ?_))); first | done | fail)) (by decide) (by rfl) (by first | exact .inl rfl | (refine .inr ⟨?_, ?_⟩ <;> simp [own2, own1, own0, ownE])) ?_) | (refine And.intro (by simp only [List.length_append]; omega) ?_) | (refine And.intro (by kernel_rfl) ?_) | (refine And.intro rfl ?_) | (refine w_addn (by omega) ?_) | (refine w_subn (by omega) ?_) | (refine w_add (by omega) ?_) | (refine w_sub (by omega) ?_) | (refine w_any (by omega) ?_) | (refine Exists.intro _ (And.intro rfl ?_)) | (with_reducible (refine cb_t rfl ?_)) | (with_reducible (refine cb_f rfl ?_)) | (refine cb_dt (by omega) ?_) | (refine cb_df (by omega) ?_) | (refine cb_nt (by omega) ?_) | (refine cb_nf (by omega) ?_) | (refine cb_t (by assumption) ?_) | (refine cb_f (by assumption) ?_) | (refine i_lt (by omega) ?_) | (refine i_le (by omega) ?_) | (refine i_cut (by omega) ?_) | (refine And.intro (by omega) ?_) | (refine And.intro trivial ?_) | (refine And.intro (by decide) ?_) | (refine And.intro (Nat.le_of_ble_eq_true rfl) ?_))
  refine loop_cut 0 ⟨[(3, .bool false), (8, .str (t4 ++ t5 ++ t6 ++ t7 ++ t8 ++ SB 2))], [], 1⟩ Nat (fun k => ⟨[(3, .bool false), (8, .str (t4 ++ t5 ++ t6 ++ t7 ++ t8 ++ SB k)), (72, .sl 5 ST), (73, .int .i64 2), (74, .int .i64 (k : Int))], [], 1⟩) (fun k => k ≤ 2) (fun k => 2 - k) 0 (by omega) ?_ ?_ ?_
  · rw [s0, List.append_nil]
    (refine le_auto (by rfl) ?_ ?_) <;> (repeat' (first | (exact trivial) | (with_reducible rfl) | (exact (rfl : _ = true)) | (exact (rfl : _ = some _)) | (exact (rfl : _ = none)) | (refine And.intro ?_ ?_) | ((show (_ : Int) = _); omega) | ((fail_if_success (with_reducible (show _ = _))); (show _ = _)))) <;> first | rfl | decide
  · intro k hk
    by_cases hlt : k < 2
    · have hk2 : (k : Int) < 2 := by omega
      obtain ⟨b, s, gs, hb, gg, hnx⟩ := sok k hlt
      have cs := c_SigText s gg
      have hsl := sigB_len gg
      have cb := c_isHouseT (n := (b : Int)) (by omega)
      have hlk := slen k hk
      generalize SB k = o at hlk hnx ⊢
      generalize sigB s = sb at cs hsl hnx
      obtain ⟨s1, s2, s3, s4⟩ := s
      repeat ((try conv => whnf); first | (refine i_at gs ?_) | (refine c_call ([]) (cs) (by ((repeat' (first | (exact trivial) | (exact rfl) | (refine And.intro ?_ ?_))); first | done | fail)) (by ((repeat' (first | (exact trivial) | (exact rfl) | (refine And.intro ?_ ?_))); first | done | fail)) (by decide) (by rfl) (by first | exact .inl rfl | (refine .inr ⟨?_, ?_⟩ <;> simp [own2, own1, own0, ownE])) ?_) | (refine c_call ([]) (cb) (by ((repeat' (first | (exact trivial) | (exact rfl) | (refine And.intro ?_ ?_))); first | done | fail)) (by ((repeat' (first | (exact trivial) | (exact rfl) | (refine And.intro ?_ ?_))); first | done | fail)) (by decide) (by rfl) (by first | exact .inl rfl | (refine .inr ⟨?_, ?_⟩ <;> simp [own2, own1, own0, ownE])) ?_) | (refine w_u8 ?_) | (refine Exists.intro [UInt8.ofNat b] (And.intro rfl ?_)) | (refine And.intro (by simp only [List.length_append, List.length_cons, List.length_nil, List.length_set, List.length_replicate]; omega) ?_) | (refine And.intro (by kernel_rfl) ?_) | (refine And.intro rfl ?_) | (refine w_addn (by omega) ?_) | (refine w_subn (by omega) ?_) | (refine w_add (by omega) ?_) | (refine w_sub (by omega) ?_) | (refine w_any (by omega) ?_) | (refine Exists.intro _ (And.intro rfl ?_)) | (with_reducible (refine cb_t rfl ?_)) | (with_reducible (refine cb_f rfl ?_)) | (refine cb_dt (by omega) ?_) | (refine cb_df (by omega) ?_) | (refine cb_nt (by omega) ?_) | (refine cb_nf (by omega) ?_) | (refine cb_t (by assumption) ?_) | (refine cb_f (by assumption) ?_) | (refine i_lt (by omega) ?_) | (refine i_le (by omega) ?_) | (refine i_cut (by omega) ?_) | (refine And.intro (by omega) ?_) | (refine And.intro trivial ?_) | (refine And.intro (by decide) ?_) | (refine And.intro (Nat.le_of_ble_eq_true rfl) ?_))
      refine ⟨k + 1, by omega, by omega, ?_⟩
      rw [hnx]
      (refine le_auto (by rfl) ?_ ?_) <;> (repeat' (first | (exact trivial) | (with_reducible rfl) | (exact (rfl : _ = true)) | (exact (rfl : _ = some _)) | (exact (rfl : _ = none)) | (refine And.intro ?_ ?_) | ((show (_ : Int) = _); omega) | ((fail_if_success (with_reducible (show _ = _))); (show _ = _))))
      all_goals (simp only [List.append_assoc])
    · obtain rfl : k = 2 := by omega
      repeat ((try conv => whnf); first | (refine And.intro rfl ?_) | (refine w_addn (by omega) ?_) | (refine w_subn (by omega) ?_) | (refine w_add (by omega) ?_) | (refine w_sub (by omega) ?_) | (refine w_any (by omega) ?_) | (refine Exists.intro _ (And.intro rfl ?_)) | (with_reducible (refine cb_t rfl ?_)) | (with_reducible (refine cb_f rfl ?_)) | (refine cb_dt (by omega) ?_) | (refine cb_df (by omega) ?_) | (refine cb_nt (by omega) ?_) | (refine cb_nf (by omega) ?_) | (refine cb_t (by assumption) ?_) | (refine cb_f (by assumption) ?_) | (refine i_lt (by omega) ?_) | (refine i_le (by omega) ?_) | (refine i_cut (by omega) ?_) | (refine And.intro (by omega) ?_) | (refine And.intro trivial ?_) | (refine And.intro (by decide) ?_) | (refine And.intro (Nat.le_of_ble_eq_true rfl) ?_))
      (refine le_auto (by rfl) ?_ ?_) <;> (repeat' (first | (exact trivial) | (with_reducible rfl) | (exact (rfl : _ = true)) | (exact (rfl : _ = some _)) | (exact (rfl : _ = none)) | (refine And.intro ?_ ?_) | ((show (_ : Int) = _); omega) | ((fail_if_success (with_reducible (show _ = _))); (show _ = _))))
  · repeat ((try conv => whnf); first | (refine And.intro rfl ?_) | (refine w_addn (by omega) ?_) | (refine w_subn (by omega) ?_) | (refine w_add (by omega) ?_) | (refine w_sub (by omega) ?_) | (refine w_any (by omega) ?_) | (refine Exists.intro _ (And.intro rfl ?_)) | (with_reducible (refine cb_t rfl ?_)) | (with_reducible (refine cb_f rfl ?_)) | (refine cb_dt (by omega) ?_) | (refine cb_df (by omega) ?_) | (refine cb_nt (by omega) ?_) | (refine cb_nf (by omega) ?_) | (refine cb_t (by assumption) ?_) | (refine cb_f (by assumption) ?_) | (refine i_lt (by omega) ?_) | (refine i_le (by omega) ?_) | (refine i_cut (by omega) ?_) | (refine And.intro (by omega) ?_) | (refine And.intro trivial ?_) | (refine And.intro (by decide) ?_) | (refine And.intro (Nat.le_of_ble_eq_true rfl) ?_))
    (refine ans_auto (by rfl) ?_ ?_ (by rfl)) <;> (repeat' (first | (exact trivial) | (with_reducible rfl) | (exact (rfl : _ = true)) | (exact (rfl : _ = some _)) | (exact (rfl : _ = none)) | (refine And.intro ?_ ?_) | ((show (_ : Int) = _); omega) | ((fail_if_success (with_reducible (show _ = _))); (show _ = _))))
end Go.Proofs.YtigfpjnjjndenaaGreatDoor
namespace Go.Proofs.YtigfpjnjjndenaaGreatDoor
open Go.RowKit Pl
set_option linter.unusedVariables false
set_option linter.unusedSimpArgs false
attribute [local irreducible] CondB CallP LoopW AnsP LeP

set_option maxRecDepth 100000 in
set_option maxHeartbeats 1000000 in
theorem c_one (t : Bs) (p a : Nat) (r : Bs) (ht : (t.length : Int) ≤ 1000000000) (hp : p ≤ t.length) (ha : a < 256) (h : t.drop p = [UInt8.ofNat a] ++ r) :
    CT Tryz.prog 102 [fldB t p false] [.ptr 1 0 0] (.int .i64 (a : Int)) [fldB t (p + 1) false] := by
  have c := c_bytes t p false 1 ht hp
  rw [bytesOf_dec (n := 1) (l := [UInt8.ofNat a]) rfl h] at c
  simp only at c
  have hx : (UInt8.ofNat a).toNat = a := by simp [UInt8.toNat_ofNat']; omega
  have h1 := i64_u8 (UInt8.ofNat a)
  rw [hx] at h1
  have h2 : (UInt8.ofNat a).toNat = a := hx
  generalize UInt8.ofNat a = x at c h1 h2
  subst h2
  have hne : ¬ (([x] : Bs) = []) := fun h => by cases h
  have h0 : 0 < ([x] : Bs).length := by simp
  refine ct_intro tt_ok 2 rfl Tryz.func102 rfl rfl rfl ?_
  repeat ((try conv => whnf); first | (refine c_call ([1]) (c) (by ((repeat' (first | (exact trivial) | (exact rfl) | (decide) | (refine And.intro ?_ ?_))); first | done | fail)) (by ((repeat' (first | (exact trivial) | (exact rfl) | (decide) | (refine And.intro ?_ ?_))); first | done | fail)) (by decide) (by rfl) (by first | exact .inl rfl | (refine .inr ⟨?_, ?_⟩ <;> simp [own2, own1, own0, ownE])) ?_) | (refine cb_df hne ?_) | (refine Exists.intro 0 (And.intro rfl (And.intro h0 ?_))) | (refine Exists.intro _ (And.intro h1.symm ?_)) | (refine And.intro rfl ?_) | (refine w_addn (by omega) ?_) | (refine w_subn (by omega) ?_) | (refine w_add (by omega) ?_) | (refine w_sub (by omega) ?_) | (refine w_any (by omega) ?_) | (refine Exists.intro _ (And.intro rfl ?_)) | (with_reducible (refine cb_t rfl ?_)) | (with_reducible (refine cb_f rfl ?_)) | (refine cb_dt (by omega) ?_) | (refine cb_df (by omega) ?_) | (refine cb_nt (by omega) ?_) | (refine cb_nf (by omega) ?_) | (refine cb_t (by assumption) ?_) | (refine cb_f (by assumption) ?_) | (refine i_lt (by omega) ?_) | (refine i_le (by omega) ?_) | (refine i_cut (by omega) ?_) | (refine And.intro (by omega) ?_) | (refine And.intro trivial ?_) | (refine And.intro (by decide) ?_) | (refine And.intro (Nat.le_of_ble_eq_true rfl) ?_))
  (refine ans_auto (by rfl) ?_ ?_ (by rfl)) <;> (repeat' (first | (exact trivial) | (with_reducible rfl) | (exact (rfl : _ = true)) | (exact (rfl : _ = some _)) | (exact (rfl : _ = none)) | (refine And.intro ?_ ?_) | ((show (_ : Int) = _); omega) | ((fail_if_success (with_reducible (show _ = _))); (show _ = _))))
set_option maxRecDepth 100000 in
set_option maxHeartbeats 4000000 in
theorem c_sig (t : Bs) (p : Nat) (s : Sg) (r : Bs) (g : s.good) (ht : (t.length : Int) ≤ 1000000000) (hp : p ≤ t.length) (h : t.drop p = sigB s ++ r) :
    CT Tryz.prog 103 [fldB t p false] [.ptr 1 0 0] (.agg (sgE s)) [fldB t (p + 321) false] := by
  obtain ⟨a, op, sh, si⟩ := s
  obtain ⟨h1, ⟨h2, h3⟩, ⟨h4, h5⟩, h6, h7⟩ := g
  simp only at h1 h2 h3 h4 h5 h6 h7
  have e0 : t.drop p = [UInt8.ofNat a] ++ (op.flatten ++ (sh.flatten ++ (si.flatten ++ r))) := by rw [h]; simp [sigB]
  have l2 := flat16 h3
  have l4 := flat16 h5
  have l6 := flat16 h7
  rw [h2] at l2
  rw [h4] at l4
  rw [h6] at l6
  have e1 := drop_step rfl e0
  have p1 := drop_le hp rfl e0
  simp only [List.length_cons, List.length_nil, Nat.zero_add] at e1 p1
  have e2 := drop_step l2 e1
  have p2 := drop_le p1 l2 e1
  have e3 := drop_step l4 e2
  have p3 := drop_le p2 l4 e2
  have c0 := c_one t p a _ ht hp (by omega) e0
  have d1 := hashL_dec h3 e1
  have d2 := hashL_dec h5 e2
  have d3 := hashL_dec h7 e3
  rw [h2, l2] at d1
  rw [h4, l4] at d2
  rw [h6, l6] at d3
  have c1 := c_hashes t (p + 1) false 8 16 ht p1 (by omega)
  have c2 := c_hashes t (p + 1 + 16 * 8) false 8 16 ht p2 (by omega)
  have c3 := c_hashes t (p + 1 + 16 * 8 + 16 * 8) false 4 16 ht p3 (by omega)
  rw [d1] at c1
  rw [d2] at c2
  rw [d3] at c3
  simp only at c1 c2 c3
  clear e0 e1 e2 e3 d1 d2 d3
  rw [show p + 321 = p + 1 + 16 * 8 + 16 * 8 + 16 * 4 by omega]
  generalize p + 1 + 16 * 8 + 16 * 8 + 16 * 4 = q4 at c3 ⊢
  generalize p + 1 + 16 * 8 + 16 * 8 = q3 at c2 c3
  generalize p + 1 + 16 * 8 = q2 at c1 c2
  generalize p + 1 = q1 at c0 c1
  show CT _ _ _ _ (.agg [.int .i64 (a : Int), .sl 1 (strE op), .sl 1 (strE sh), .sl 1 (strE si)]) _
  refine ct_intro tt4_ok 2 rfl Tryz.func103 rfl rfl rfl ?_
  repeat ((try conv => whnf); first | (refine c_call ([1]) (c0) (by ((repeat' (first | (exact trivial) | (exact rfl) | (decide) | (refine And.intro ?_ ?_))); first | done | fail)) (by ((repeat' (first | (exact trivial) | (exact rfl) | (decide) | (refine And.intro ?_ ?_))); first | done | fail)) (by decide) (by rfl) (by first | exact .inl rfl | (refine .inr ⟨?_, ?_⟩ <;> simp [own2, own1, own0, ownE])) ?_) | (refine c_call ([1]) (c1) (by ((repeat' (first | (exact trivial) | (exact rfl) | (decide) | (refine And.intro ?_ ?_))); first | done | fail)) (by ((repeat' (first | (exact trivial) | (exact rfl) | (decide) | (refine And.intro ?_ ?_))); first | done | fail)) (by decide) (by rfl) (by first | exact .inl rfl | (refine .inr ⟨?_, ?_⟩ <;> simp [own2, own1, own0, ownE])) ?_) | (refine c_call ([1]) (c2) (by ((repeat' (first | (exact trivial) | (exact rfl) | (decide) | (refine And.intro ?_ ?_))); first | done | fail)) (by ((repeat' (first | (exact trivial) | (exact rfl) | (decide) | (refine And.intro ?_ ?_))); first | done | fail)) (by decide) (by rfl) (by first | exact .inl rfl | (refine .inr ⟨?_, ?_⟩ <;> simp [own2, own1, own0, ownE])) ?_) | (refine c_call ([1]) (c3) (by ((repeat' (first | (exact trivial) | (exact rfl) | (decide) | (refine And.intro ?_ ?_))); first | done | fail)) (by ((repeat' (first | (exact trivial) | (exact rfl) | (decide) | (refine And.intro ?_ ?_))); first | done | fail)) (by decide) (by rfl) (by first | exact .inl rfl | (refine .inr ⟨?_, ?_⟩ <;> simp [own2, own1, own0, ownE])) ?_) | (refine And.intro (by kernel_rfl) ?_) | (refine And.intro rfl ?_) | (refine w_addn (by omega) ?_) | (refine w_subn (by omega) ?_) | (refine w_add (by omega) ?_) | (refine w_sub (by omega) ?_) | (refine w_any (by omega) ?_) | (refine Exists.intro _ (And.intro rfl ?_)) | (with_reducible (refine cb_t rfl ?_)) | (with_reducible (refine cb_f rfl ?_)) | (refine cb_dt (by omega) ?_) | (refine cb_df (by omega) ?_) | (refine cb_nt (by omega) ?_) | (refine cb_nf (by omega) ?_) | (refine cb_t (by assumption) ?_) | (refine cb_f (by assumption) ?_) | (refine i_lt (by omega) ?_) | (refine i_le (by omega) ?_) | (refine i_cut (by omega) ?_) | (refine And.intro (by omega) ?_) | (refine And.intro trivial ?_) | (refine And.intro (by decide) ?_) | (refine And.intro (Nat.le_of_ble_eq_true rfl) ?_))
  (refine ans_auto (by rfl) ?_ ?_ (by rfl)) <;> (repeat' (first | (exact trivial) | (with_reducible rfl) | (exact (rfl : _ = true)) | (exact (rfl : _ = some _)) | (exact (rfl : _ = none)) | (refine And.intro ?_ ?_) | ((show (_ : Int) = _); omega) | ((fail_if_success (with_reducible (show _ = _))); (show _ = _))))
set_option maxRecDepth 100000 in
set_option maxHeartbeats 4000000 in
theorem c_ReadHead (h : Hd) (g : h.good) : CT Tryz.prog 256 [] [.str (headB h)] (.tup [.agg (hdE h), .bool true]) [] := by
  have hl := headB_len g
  have k1 := c_HeadOk h g
  obtain ⟨ho, ep, ro, pr⟩ := h
  obtain ⟨h1, h2, h3, h4, h5⟩ := g
  simp only at h1 h2 h3 h4 h5
  have e0 : (headB ⟨ho, ep, ro, pr⟩).drop 0 = [UInt8.ofNat ho] ++ ([UInt8.ofNat ep] ++ (ro ++ pr)) := by simp [headB]
  have p0 : 0 ≤ (headB ⟨ho, ep, ro, pr⟩).length := by omega
  generalize headB ⟨ho, ep, ro, pr⟩ = t at hl e0 p0 ⊢
  have e1 := drop_step rfl e0
  have p1 := drop_le p0 rfl e0
  simp only [List.length_cons, List.length_nil, Nat.zero_add] at e1 p1
  have e2 := drop_step rfl e1
  have p2 := drop_le p1 rfl e1
  simp only [List.length_cons, List.length_nil, Nat.zero_add, Nat.reduceAdd] at e2 p2
  have e3 := drop_step h4 e2
  have p3 := drop_le p2 h4 e2
  simp only [Nat.reduceAdd] at e3 p3
  have c0 := c_one t 0 ho _ (by omega) p0 (by omega) e0
  have c1 := c_one t 1 ep _ (by omega) p1 (by omega) e1
  have c2 := c_bytes t 2 false 16 (by omega) p2
  rw [bytesOf_dec h4 e2] at c2
  simp only [Nat.zero_add, Nat.reduceAdd] at c0 c1 c2
  subst e3
  refine ct_intro tt4_ok 1 rfl Tryz.func256 rfl rfl rfl ?_
  repeat ((try conv => whnf); first | (refine c_call ([_]) (c0) (by ((repeat' (first | (exact trivial) | (exact rfl) | (decide) | (refine And.intro ?_ ?_))); first | done | fail)) (by ((repeat' (first | (exact trivial) | (exact rfl) | (decide) | (refine And.intro ?_ ?_))); first | done | fail)) (by decide) (by rfl) (by first | exact .inl rfl | (refine .inr ⟨?_, ?_⟩ <;> simp [own2, own1, own0, ownE])) ?_) | (refine c_call ([_]) (c1) (by ((repeat' (first | (exact trivial) | (exact rfl) | (decide) | (refine And.intro ?_ ?_))); first | done | fail)) (by ((repeat' (first | (exact trivial) | (exact rfl) | (decide) | (refine And.intro ?_ ?_))); first | done | fail)) (by decide) (by rfl) (by first | exact .inl rfl | (refine .inr ⟨?_, ?_⟩ <;> simp [own2, own1, own0, ownE])) ?_) | (refine c_call ([_]) (c2) (by ((repeat' (first | (exact trivial) | (exact rfl) | (decide) | (refine And.intro ?_ ?_))); first | done | fail)) (by ((repeat' (first | (exact trivial) | (exact rfl) | (decide) | (refine And.intro ?_ ?_))); first | done | fail)) (by decide) (by rfl) (by first | exact .inl rfl | (refine .inr ⟨?_, ?_⟩ <;> simp [own2, own1, own0, ownE])) ?_) | (refine c_call ([]) (k1) (by ((repeat' (first | (exact trivial) | (exact rfl) | (refine And.intro ?_ ?_))); first | done | fail)) (by ((repeat' (first | (exact trivial) | (exact rfl) | (refine And.intro ?_ ?_))); first | done | fail)) (by decide) (by rfl) (by first | exact .inl rfl | (refine .inr ⟨?_, ?_⟩ <;> simp [own2, own1, own0, ownE])) ?_) | (refine Exists.intro 18 (And.intro rfl (And.intro p3 ?_))) | (refine And.intro (by kernel_rfl) ?_) | (refine And.intro rfl ?_) | (refine w_addn (by omega) ?_) | (refine w_subn (by omega) ?_) | (refine w_add (by omega) ?_) | (refine w_sub (by omega) ?_) | (refine w_any (by omega) ?_) | (refine Exists.intro _ (And.intro rfl ?_)) | (with_reducible (refine cb_t rfl ?_)) | (with_reducible (refine cb_f rfl ?_)) | (refine cb_dt (by omega) ?_) | (refine cb_df (by omega) ?_) | (refine cb_nt (by omega) ?_) | (refine cb_nf (by omega) ?_) | (refine cb_t (by assumption) ?_) | (refine cb_f (by assumption) ?_) | (refine i_lt (by omega) ?_) | (refine i_le (by omega) ?_) | (refine i_cut (by omega) ?_) | (refine And.intro (by omega) ?_) | (refine And.intro trivial ?_) | (refine And.intro (by decide) ?_) | (refine And.intro (Nat.le_of_ble_eq_true rfl) ?_))
  (refine ans_auto (by rfl) ?_ ?_ (by rfl)) <;> (repeat' (first | (exact trivial) | (with_reducible rfl) | (exact (rfl : _ = true)) | (exact (rfl : _ = some _)) | (exact (rfl : _ = none)) | (refine And.intro ?_ ?_) | ((show (_ : Int) = _); omega) | ((fail_if_success (with_reducible (show _ = _))); (show _ = _)))) <;> rfl
set_option maxRecDepth 100000 in
set_option maxHeartbeats 4000000 in
theorem c_ReadSeal (h : Hd) (s : Sg) (g : h.good) (gs : s.good) : CT Tryz.prog 101 [] [.str (sealB h s)] (.tup [.agg (hdE h ++ sgE s), .bool true]) [] := by
  have hl := headB_len g
  have hs := sigB_len gs
  have hsl := shortText_le (l := headB h) (by omega)
  have hsb : (sealB h s).length = (shortText (headB h)).length + 321 := by rw [sealB, List.length_append, hs]
  have e0 : (sealB h s).drop 0 = shortText (headB h) ++ (sigB s ++ []) := by simp [sealB]
  have p0 : 0 ≤ (sealB h s).length := by omega
  generalize sealB h s = t at hsb e0 p0 ⊢
  have e1 := drop_step rfl e0
  have p1 := drop_le p0 rfl e0
  simp only [Nat.zero_add] at e1 p1
  have c0 := c_short t 0 false (by omega) p0
  rw [shortOf_dec (by omega) e0] at c0
  have k0 := c_ReadHead h g
  have c1 := c_sig t (shortText (headB h)).length s [] gs (by omega) p1 e1
  have k1 := c_formedT s gs
  have c2 := c_done t ((shortText (headB h)).length + 321) false
  rw [show doneB false ((shortText (headB h)).length + 321) t.length = true by rw [hsb]; simp [doneB]] at c2
  simp only [Nat.zero_add] at c0
  generalize (shortText (headB h)).length + 321 = q2 at c1 c2
  generalize (shortText (headB h)).length = q1 at c0 c1
  generalize headB h = hb at c0 k0
  obtain ⟨ho, ep, ro, pr⟩ := h
  obtain ⟨a, op, sh, si⟩ := s
  have cS : CT Tryz.prog 190 [fldB t 0 false] [.ptr 1 0 0] (.agg (hdE ⟨ho, ep, ro, pr⟩ ++ sgE ⟨a, op, sh, si⟩)) [fldB t q2 false] := by
    refine ct_intro tt4_ok 2 rfl Tryz.func190 rfl rfl rfl ?_
    repeat ((try conv => whnf); first | (refine c_call ([1]) (c0) (by ((repeat' (first | (exact trivial) | (exact rfl) | (decide) | (refine And.intro ?_ ?_))); first | done | fail)) (by ((repeat' (first | (exact trivial) | (exact rfl) | (decide) | (refine And.intro ?_ ?_))); first | done | fail)) (by decide) (by rfl) (by first | exact .inl rfl | (refine .inr ⟨?_, ?_⟩ <;> simp [own2, own1, own0, ownE])) ?_) | (refine c_call ([]) (k0) (by ((repeat' (first | (exact trivial) | (exact rfl) | (refine And.intro ?_ ?_))); first | done | fail)) (by ((repeat' (first | (exact trivial) | (exact rfl) | (refine And.intro ?_ ?_))); first | done | fail)) (by decide) (by rfl) (by first | exact .inl rfl | (refine .inr ⟨?_, ?_⟩ <;> simp [own2, own1, own0, ownE])) ?_) | (refine c_call ([_]) (c1) (by ((repeat' (first | (exact trivial) | (exact rfl) | (decide) | (refine And.intro ?_ ?_))); first | done | fail)) (by ((repeat' (first | (exact trivial) | (exact rfl) | (decide) | (refine And.intro ?_ ?_))); first | done | fail)) (by decide) (by rfl) (by first | exact .inl rfl | (refine .inr ⟨?_, ?_⟩ <;> simp [own2, own1, own0, ownE])) ?_) | (refine c_call ([]) (k1) (by ((repeat' (first | (exact trivial) | (exact rfl) | (refine And.intro ?_ ?_))); first | done | fail)) (by ((repeat' (first | (exact trivial) | (exact rfl) | (refine And.intro ?_ ?_))); first | done | fail)) (by decide) (by rfl) (by first | exact .inl rfl | (refine .inr ⟨?_, ?_⟩ <;> simp [own2, own1, own0, ownE])) ?_) | (refine And.intro (by kernel_rfl) ?_) | (refine And.intro rfl ?_) | (refine w_addn (by omega) ?_) | (refine w_subn (by omega) ?_) | (refine w_add (by omega) ?_) | (refine w_sub (by omega) ?_) | (refine w_any (by omega) ?_) | (refine Exists.intro _ (And.intro rfl ?_)) | (with_reducible (refine cb_t rfl ?_)) | (with_reducible (refine cb_f rfl ?_)) | (refine cb_dt (by omega) ?_) | (refine cb_df (by omega) ?_) | (refine cb_nt (by omega) ?_) | (refine cb_nf (by omega) ?_) | (refine cb_t (by assumption) ?_) | (refine cb_f (by assumption) ?_) | (refine i_lt (by omega) ?_) | (refine i_le (by omega) ?_) | (refine i_cut (by omega) ?_) | (refine And.intro (by omega) ?_) | (refine And.intro trivial ?_) | (refine And.intro (by decide) ?_) | (refine And.intro (Nat.le_of_ble_eq_true rfl) ?_))
    (refine ans_auto (by rfl) ?_ ?_ (by rfl)) <;> (repeat' (first | (exact trivial) | (with_reducible rfl) | (exact (rfl : _ = true)) | (exact (rfl : _ = some _)) | (exact (rfl : _ = none)) | (refine And.intro ?_ ?_) | ((show (_ : Int) = _); omega) | ((fail_if_success (with_reducible (show _ = _))); (show _ = _)))) <;> rfl
  refine ct_intro tt4_ok 1 rfl Tryz.func101 rfl rfl rfl ?_
  repeat ((try conv => whnf); first | (refine c_call ([_]) (cS) (by ((repeat' (first | (exact trivial) | (exact rfl) | (decide) | (refine And.intro ?_ ?_))); first | done | fail)) (by ((repeat' (first | (exact trivial) | (exact rfl) | (decide) | (refine And.intro ?_ ?_))); first | done | fail)) (by decide) (by rfl) (by first | exact .inl rfl | (refine .inr ⟨?_, ?_⟩ <;> simp [own2, own1, own0, ownE])) ?_) | (refine c_call ([_]) (c2) (by ((repeat' (first | (exact trivial) | (exact rfl) | (decide) | (refine And.intro ?_ ?_))); first | done | fail)) (by ((repeat' (first | (exact trivial) | (exact rfl) | (decide) | (refine And.intro ?_ ?_))); first | done | fail)) (by decide) (by rfl) (by first | exact .inl rfl | (refine .inr ⟨?_, ?_⟩ <;> simp [own2, own1, own0, ownE])) ?_) | (refine And.intro (by kernel_rfl) ?_) | (refine And.intro rfl ?_) | (refine w_addn (by omega) ?_) | (refine w_subn (by omega) ?_) | (refine w_add (by omega) ?_) | (refine w_sub (by omega) ?_) | (refine w_any (by omega) ?_) | (refine Exists.intro _ (And.intro rfl ?_)) | (with_reducible (refine cb_t rfl ?_)) | (with_reducible (refine cb_f rfl ?_)) | (refine cb_dt (by omega) ?_) | (refine cb_df (by omega) ?_) | (refine cb_nt (by omega) ?_) | (refine cb_nf (by omega) ?_) | (refine cb_t (by assumption) ?_) | (refine cb_f (by assumption) ?_) | (refine i_lt (by omega) ?_) | (refine i_le (by omega) ?_) | (refine i_cut (by omega) ?_) | (refine And.intro (by omega) ?_) | (refine And.intro trivial ?_) | (refine And.intro (by decide) ?_) | (refine And.intro (Nat.le_of_ble_eq_true rfl) ?_))
  (refine ans_auto (by rfl) ?_ ?_ (by rfl)) <;> (repeat' (first | (exact trivial) | (with_reducible rfl) | (exact (rfl : _ = true)) | (exact (rfl : _ = some _)) | (exact (rfl : _ = none)) | (refine And.intro ?_ ?_) | ((show (_ : Int) = _); omega) | ((fail_if_success (with_reducible (show _ = _))); (show _ = _))))
theorem sealB_le {h : Hd} {s : Sg} (g : h.good) (gs : s.good) : (sealB h s).length ≤ 400 := by
  have a := headB_len g
  have b := sigB_len gs
  have c := shortText_le (l := headB h) (by omega)
  rw [sealB, List.length_append]
  omega
set_option maxRecDepth 100000 in
set_option maxHeartbeats 8000000 in
theorem c_ReadWhole (R : List Bs) (K need : Nat) (nm : Bs) (x : Wh) (g : WhOk R K need nm x) (hp : proofOkB x.B x.S 16 = true) (hpl : (proofText x.B x.S).length ≤ 20000) :
    CT Tryz.prog 29 [] [.str (wholeB x)] (.tup [.agg (whE x), .bool true]) [] := by
  have gst := g.st
  have gtl := g.tl
  have gk := g.k
  have gtw := g.tw
  have hgs : ∀ k, k < 2 → (stAt x.st k).2.good := fun k hk => (g.sh k hk).2.2.1
  have hgb : ∀ k, k < 2 → (stAt x.st k).1 ≤ 2 := fun k hk => (g.sh k hk).1
  have ksl := c_ReadSeal x.hd x.sg g.hd g.sg
  have lsl := sealB_le g.hd g.sg
  have e0 : (wholeB x).drop 0 = shortText (proofText x.B x.S) ++ (varText K ++ (x.T.flatten ++ (shortText (sealB x.hd x.sg) ++ (varText 2 ++ stB x.st 2)))) := by
    rw [wholeB, preB, gst, gtl]; simp
  have l1 := shortText_le (l := proofText x.B x.S) (by omega)
  have l2 := varTextL (n := K) (by omega)
  have l3 := flat16 gtw
  have l4 := shortText_le (l := sealB x.hd x.sg) (by omega)
  have l5 := varTextL (n := 2) (by omega)
  have l6 := stB_len 2 hgs
  have hlen : (wholeB x).length ≤ 30000 := by
    have := congrArg List.length e0
    simp only [List.drop_zero, List.length_append] at this
    omega
  have hst2 := @stB_at x.st hgs
  have hst0 : x.st.take 2 = x.st := by rw [← gst, List.take_length]
  have hnx : ∀ k, k < 2 → stE (x.st.take (k + 1)) = stE (x.st.take k) ++ [T.int .i64 ((stAt x.st k).1 : Int) :: sgE (stAt x.st k).2] := fun k hk => stE_next (by omega)
  have kpf : CT Tryz.prog 12 [] [.str (proofText x.B x.S), .int .i64 16] (.tup [.agg [.ref 1, .ref 2], .bool true]) [.row 2 (lvE x.B), .row 1 (strE x.S)] := by
    have c := c_ReadProof (proofText x.B x.S) 16 (by omega)
    have hi : inB 16 1 32 = true := by decide
    have f : readPf (proofText x.B x.S) 16 = some (x.B, x.S) := by
      show (bif inB 16 1 32 then readPfI _ (16 : Int).toNat else none) = _
      rw [hi]
      exact (pfI_iff (w := 16) (by omega)).2 ⟨hp, rfl⟩
    rw [f] at c
    exact c
  clear g hp
  obtain ⟨B, S, Tp, hd, sg, st⟩ := x
  simp only at gst gtl gtw hgs hgb ksl lsl e0 l1 l2 l3 l4 l5 l6 hlen hst2 hst0 hnx kpf hpl ⊢
  generalize wholeB ⟨B, S, Tp, hd, sg, st⟩ = t at e0 hlen ⊢
  generalize proofText B S = P at e0 l1 kpf hpl
  generalize sealB hd sg = SB at ksl lsl e0 l4
  have ht : (t.length : Int) ≤ 1000000000 := by omega
  have e1 := drop_step rfl e0
  have p1 := drop_le (by omega) rfl e0
  have e2 := drop_step rfl e1
  have p2 := drop_le p1 rfl e1
  have e3 := drop_step l3 e2
  have p3 := drop_le p2 l3 e2
  have e4 := drop_step rfl e3
  have p4 := drop_le p3 rfl e3
  have e5 := drop_step rfl e4
  have p5 := drop_le p4 rfl e4
  have c0 := c_short t 0 false ht (by omega)
  rw [shortOf_dec hpl e0] at c0
  have c1 := c_num t _ false ht p1
  rw [numOf_dec (by omega) e1] at c1
  have c2 := c_hashes t _ false K 16 ht p2 (by omega)
  have d2 := hashL_dec gtw e2
  rw [l3, gtl] at d2
  rw [d2] at c2
  rw [gtl] at e3 p3 e4 p4 e5 p5
  have c3 := c_short t _ false ht p3
  rw [shortOf_dec (by omega) e3] at c3
  have c4 := c_num t _ false ht p4
  rw [numOf_dec (by omega) e4] at c4
  simp only at c0 c1 c2 c3 c4
  generalize 0 + (shortText P).length + (varText K).length + 16 * K + (shortText SB).length + (varText 2).length = q5 at c4 e5 p5
  generalize 0 + (shortText P).length + (varText K).length + 16 * K + (shortText SB).length = q4 at c3 c4
  generalize 0 + (shortText P).length + (varText K).length + 16 * K = q3 at c2 c3
  generalize 0 + (shortText P).length + (varText K).length = q2 at c1 c2
  generalize 0 + (shortText P).length = q1 at c0 c1
  have sok : ∀ k, k < 2 → ∃ (b : Nat) (s : Sg) (q' : Nat), stE (st.take (k + 1)) = stE (st.take k) ++ [T.int .i64 (b : Int) :: sgE s] ∧ b ≤ 2 ∧ s.good ∧
      CT Tryz.prog 102 [fldB t (q5 + 322 * k) false] [.ptr 1 0 0] (.int .i64 (b : Int)) [fldB t q' false] ∧
      CT Tryz.prog 103 [fldB t q' false] [.ptr 1 0 0] (.agg (sgE s)) [fldB t (q5 + 322 * (k + 1)) false] := fun k hk => by
    obtain ⟨r, hr⟩ := hst2 hk
    have hb := hgb k hk
    have hs := hgs k hk
    have f0 : t.drop (q5 + 322 * k) = [UInt8.ofNat (stAt st k).1] ++ (sigB (stAt st k).2 ++ r) := by rw [← List.drop_drop, e5, hr]
    have hl5 := congrArg List.length e5
    rw [List.length_drop, l6] at hl5
    have hq : q5 + 322 * k ≤ t.length := by omega
    have f1 := drop_step rfl f0
    have hq1 := drop_le hq rfl f0
    simp only [List.length_cons, List.length_nil, Nat.zero_add] at f1 hq1
    have a1 := c_one t (q5 + 322 * k) (stAt st k).1 _ ht hq (by omega) f0
    have a2 := c_sig t (q5 + 322 * k + 1) (stAt st k).2 r hs ht hq1 f1
    rw [show q5 + 322 * k + 1 + 321 = q5 + 322 * (k + 1) by omega] at a2
    exact ⟨_, _, _, hnx k hk, hb, hs, a1, a2⟩
  have kd := c_done t (q5 + 322 * 2) false
  have hl5 := congrArg List.length e5
  rw [List.length_drop, l6] at hl5
  rw [show doneB false (q5 + 322 * 2) t.length = true by rw [show t.length = q5 + 322 * 2 by omega]; simp [doneB]] at kd
  have hstl : ∀ k, k ≤ 2 → (stE (st.take k)).length = k := fun k hk => by rw [stE_len, List.length_take]; omega
  clear e0 e1 e2 e3 e4 e5 p1 p2 p3 p4 p5 hl5 l1 l2 l3 l4 l5 l6 hst2 hnx hgs hgb d2 lsl hpl
  have hz : st.take 0 = [] := rfl
  obtain ⟨ho, ep, ro, pr⟩ := hd
  obtain ⟨sa, so, ss, si⟩ := sg
  show CT _ _ _ _ (.tup [.agg [.sl 2 (lvE B), .sl 1 (strE S), .sl 1 (strE Tp), .int .i64 (ho : Int), .int .i64 (ep : Int), .str ro, .str pr, .int .i64 (sa : Int), .sl 1 (strE so), .sl 1 (strE ss), .sl 1 (strE si), .sl 5 (stE st)], _]) _
  have hsE : stE (st.take 2) = stE st := by rw [hst0]
  have hs0 : stE (st.take 0) = [] := rfl
  have hQ0 : q5 + 322 * 0 = q5 := by omega
  obtain ⟨ST, hST⟩ : ∃ f : Nat → List (List T), f = fun k => stE (st.take k) := ⟨_, rfl⟩
  obtain ⟨Q, hQ⟩ : ∃ f : Nat → Nat, f = fun k => q5 + 322 * k := ⟨_, rfl⟩
  have sok2 : ∀ k, k < 2 → ∃ (b : Nat) (s : Sg) (q' : Nat), ST (k + 1) = ST k ++ [T.int .i64 (b : Int) :: sgE s] ∧ b ≤ 2 ∧ s.good ∧
      CT Tryz.prog 102 [fldB t (Q k) false] [.ptr 1 0 0] (.int .i64 (b : Int)) [fldB t q' false] ∧
      CT Tryz.prog 103 [fldB t q' false] [.ptr 1 0 0] (.agg (sgE s)) [fldB t (Q (k + 1)) false] := by subst hST hQ; exact sok
  have hstl2 : ∀ k, k ≤ 2 → (ST k).length = k := by subst hST; exact hstl
  have hs02 : ST 0 = [] := by subst hST; exact hs0
  have hsE2 : ST 2 = stE st := by subst hST; exact hsE
  have kd2 : CT Tryz.prog 66 [fldB t (Q 2) false] [.ptr 1 0 0] (.bool true) [fldB t (Q 2) false] := by subst hQ; exact kd
  have hQ02 : Q 0 = q5 := by subst hQ; exact hQ0
  rw [← hsE2]
  clear sok hstl hs0 hsE kd hQ0 hST hQ hst0 hz
  rw [← hQ02] at c4
  have hgt : ¬ (K : Int) > 2 := by omega
  refine ct_intro tt4_ok 1 rfl Tryz.func29 rfl rfl rfl ?_
  repeat ((try conv => whnf); first | (refine c_call ([_]) (c0) (by ((repeat' (first | (exact trivial) | (exact rfl) | (decide) | (refine And.intro ?_ ?_))); first | done | fail)) (by ((repeat' (first | (exact trivial) | (exact rfl) | (decide) | (refine And.intro ?_ ?_))); first | done | fail)) (by decide) (by rfl) (by first | exact .inl rfl | (refine .inr ⟨?_, ?_⟩ <;> simp [own2, own1, own0, ownE])) ?_) | (refine c_call ([]) (kpf) (by ((repeat' (first | (exact trivial) | (exact rfl) | (refine And.intro ?_ ?_))); first | done | fail)) (by ((repeat' (first | (exact trivial) | (exact rfl) | (refine And.intro ?_ ?_))); first | done | fail)) (by decide) (by rfl) (by first | exact .inl rfl | (refine .inr ⟨by simp [own2, own1, own0], fun e he => ?_⟩; simp only [List.mem_cons, List.not_mem_nil, or_false] at he <;> first | exact he.elim | (subst he; (first | exact own_lvE _ | exact own_strE _)) | (rcases he with rfl | rfl <;> (first | exact own_lvE _ | exact own_strE _)))) ?_) | (refine c_call ([_]) (c1) (by ((repeat' (first | (exact trivial) | (exact rfl) | (decide) | (refine And.intro ?_ ?_))); first | done | fail)) (by ((repeat' (first | (exact trivial) | (exact rfl) | (decide) | (refine And.intro ?_ ?_))); first | done | fail)) (by decide) (by rfl) (by first | exact .inl rfl | (refine .inr ⟨?_, ?_⟩ <;> simp [own2, own1, own0, ownE])) ?_) | (refine c_call ([_]) (c2) (by ((repeat' (first | (exact trivial) | (exact rfl) | (decide) | (refine And.intro ?_ ?_))); first | done | fail)) (by ((repeat' (first | (exact trivial) | (exact rfl) | (decide) | (refine And.intro ?_ ?_))); first | done | fail)) (by decide) (by rfl) (by first | exact .inl rfl | (refine .inr ⟨?_, ?_⟩ <;> simp [own2, own1, own0, ownE])) ?_) | (refine c_call ([_]) (c3) (by ((repeat' (first | (exact trivial) | (exact rfl) | (decide) | (refine And.intro ?_ ?_))); first | done | fail)) (by ((repeat' (first | (exact trivial) | (exact rfl) | (decide) | (refine And.intro ?_ ?_))); first | done | fail)) (by decide) (by rfl) (by first | exact .inl rfl | (refine .inr ⟨?_, ?_⟩ <;> simp [own2, own1, own0, ownE])) ?_) | (refine c_call ([]) (ksl) (by ((repeat' (first | (exact trivial) | (exact rfl) | (refine And.intro ?_ ?_))); first | done | fail)) (by ((repeat' (first | (exact trivial) | (exact rfl) | (refine And.intro ?_ ?_))); first | done | fail)) (by decide) (by rfl) (by first | exact .inl rfl | (refine .inr ⟨?_, ?_⟩ <;> simp [own2, own1, own0, ownE])) ?_) | (refine c_call ([_]) (c4) (by ((repeat' (first | (exact trivial) | (exact rfl) | (decide) | (refine And.intro ?_ ?_))); first | done | fail)) (by ((repeat' (first | (exact trivial) | (exact rfl) | (decide) | (refine And.intro ?_ ?_))); first | done | fail)) (by decide) (by rfl) (by first | exact .inl rfl | (refine .inr ⟨?_, ?_⟩ <;> simp [own2, own1, own0, ownE])) ?_) | (refine And.intro (by kernel_rfl) ?_) | (refine And.intro rfl ?_) | (refine w_addn (by omega) ?_) | (refine w_subn (by omega) ?_) | (refine w_add (by omega) ?_) | (refine w_sub (by omega) ?_) | (refine w_any (by omega) ?_) | (refine Exists.intro _ (And.intro rfl ?_)) | (with_reducible (refine cb_t rfl ?_)) | (with_reducible (refine cb_f rfl ?_)) | (refine cb_dt (by omega) ?_) | (refine cb_df (by omega) ?_) | (refine cb_nt (by omega) ?_) | (refine cb_nf (by omega) ?_) | (refine cb_t (by assumption) ?_) | (refine cb_f (by assumption) ?_) | (refine i_lt (by omega) ?_) | (refine i_le (by omega) ?_) | (refine i_cut (by omega) ?_) | (refine And.intro (by omega) ?_) | (refine And.intro trivial ?_) | (refine And.intro (by decide) ?_) | (refine And.intro (Nat.le_of_ble_eq_true rfl) ?_))
  refine loop_cut 0 ⟨[(2, .ptr 1 0 0), (4, .ptr 2 0 0), (5, .ptr 3 0 0), (6, .bool true), (7, .bool true)], [(1, some (.box [.val nilV, .val nilV, .val nilV, .int .i64 0, .int .i64 0, .str [], .str [], .int .i64 0, .val nilV, .val nilV, .val nilV, .val nilV])), (2, some (fldB t (Q 2) false)), (3, some (.box [.ref 4, .ref 5, .ref 6, .int .i64 (ho : Int), .int .i64 (ep : Int), .str ro, .str pr, .int .i64 (sa : Int), .sl 1 (strE so), .sl 1 (strE ss), .sl 1 (strE si), .ref 7])), (4, some (.row 2 (lvE B))), (5, some (.row 1 (strE S))), (6, some (.row 1 (strE Tp))), (7, some (.row 5 (ST 2)))], 8⟩ Nat
    (fun k => ⟨[(2, .ptr 1 0 0), (4, .ptr 2 0 0), (5, .ptr 3 0 0), (6, .bool true), (7, .bool true), (36, .int .i64 2), (37, .int .i64 (k : Int))], [(1, some (.box [.val nilV, .val nilV, .val nilV, .int .i64 0, .int .i64 0, .str [], .str [], .int .i64 0, .val nilV, .val nilV, .val nilV, .val nilV])), (2, some (fldB t (Q k) false)), (3, some (.box [.ref 4, .ref 5, .ref 6, .int .i64 (ho : Int), .int .i64 (ep : Int), .str ro, .str pr, .int .i64 (sa : Int), .sl 1 (strE so), .sl 1 (strE ss), .sl 1 (strE si), .ref 7])), (4, some (.row 2 (lvE B))), (5, some (.row 1 (strE S))), (6, some (.row 1 (strE Tp))), (7, some (.row 5 (ST k)))], 8⟩) (fun k => k ≤ 2) (fun k => 2 - k) 0 (by omega) ?_ ?_ ?_
  · rw [hs02]
    (refine le_auto (by rfl) ?_ ?_) <;> (repeat' (first | (exact trivial) | (with_reducible rfl) | (exact (rfl : _ = true)) | (exact (rfl : _ = some _)) | (exact (rfl : _ = none)) | (refine And.intro ?_ ?_) | ((show (_ : Int) = _); omega) | ((fail_if_success (with_reducible (show _ = _))); (show _ = _)))) <;> first | rfl | decide
  · intro k hk
    have hln := hstl2 k hk
    by_cases hlt : k < 2
    · have hk2 : (k : Int) < 2 := by omega
      obtain ⟨b, s, q', hx, hb, gs, a1, a2⟩ := sok2 k hlt
      have a3 := c_isHouseT (n := (b : Int)) (by omega)
      have a4 := c_formedT s gs
      obtain ⟨s1, s2, s3, s4⟩ := s
      generalize ST k = o at hln hx ⊢
      repeat ((try conv => whnf); first | (refine c_call ([_]) (a1) (by ((repeat' (first | (exact trivial) | (exact rfl) | (decide) | (refine And.intro ?_ ?_))); first | done | fail)) (by ((repeat' (first | (exact trivial) | (exact rfl) | (decide) | (refine And.intro ?_ ?_))); first | done | fail)) (by decide) (by rfl) (by first | exact .inl rfl | (refine .inr ⟨?_, ?_⟩ <;> simp [own2, own1, own0, ownE])) ?_) | (refine c_call ([_]) (a2) (by ((repeat' (first | (exact trivial) | (exact rfl) | (decide) | (refine And.intro ?_ ?_))); first | done | fail)) (by ((repeat' (first | (exact trivial) | (exact rfl) | (decide) | (refine And.intro ?_ ?_))); first | done | fail)) (by decide) (by rfl) (by first | exact .inl rfl | (refine .inr ⟨?_, ?_⟩ <;> simp [own2, own1, own0, ownE])) ?_) | (refine c_call ([]) (a3) (by ((repeat' (first | (exact trivial) | (exact rfl) | (refine And.intro ?_ ?_))); first | done | fail)) (by ((repeat' (first | (exact trivial) | (exact rfl) | (refine And.intro ?_ ?_))); first | done | fail)) (by decide) (by rfl) (by first | exact .inl rfl | (refine .inr ⟨?_, ?_⟩ <;> simp [own2, own1, own0, ownE])) ?_) | (refine c_call ([]) (a4) (by ((repeat' (first | (exact trivial) | (exact rfl) | (refine And.intro ?_ ?_))); first | done | fail)) (by ((repeat' (first | (exact trivial) | (exact rfl) | (refine And.intro ?_ ?_))); first | done | fail)) (by decide) (by rfl) (by first | exact .inl rfl | (refine .inr ⟨?_, ?_⟩ <;> simp [own2, own1, own0, ownE])) ?_) | (refine And.intro (by simp only [List.length_append, List.length_cons, List.length_nil, List.length_set, List.length_replicate]; omega) ?_) | (refine And.intro (by kernel_rfl) ?_) | (refine And.intro rfl ?_) | (refine w_addn (by omega) ?_) | (refine w_subn (by omega) ?_) | (refine w_add (by omega) ?_) | (refine w_sub (by omega) ?_) | (refine w_any (by omega) ?_) | (refine Exists.intro _ (And.intro rfl ?_)) | (with_reducible (refine cb_t rfl ?_)) | (with_reducible (refine cb_f rfl ?_)) | (refine cb_dt (by omega) ?_) | (refine cb_df (by omega) ?_) | (refine cb_nt (by omega) ?_) | (refine cb_nf (by omega) ?_) | (refine cb_t (by assumption) ?_) | (refine cb_f (by assumption) ?_) | (refine i_lt (by omega) ?_) | (refine i_le (by omega) ?_) | (refine i_cut (by omega) ?_) | (refine And.intro (by omega) ?_) | (refine And.intro trivial ?_) | (refine And.intro (by decide) ?_) | (refine And.intro (Nat.le_of_ble_eq_true rfl) ?_))
      refine ⟨k + 1, by omega, by omega, ?_⟩
      rw [hx]
      (refine le_auto (by rfl) ?_ ?_) <;> (repeat' (first | (exact trivial) | (with_reducible rfl) | (exact (rfl : _ = true)) | (exact (rfl : _ = some _)) | (exact (rfl : _ = none)) | (refine And.intro ?_ ?_) | ((show (_ : Int) = _); omega) | ((fail_if_success (with_reducible (show _ = _))); (show _ = _))))
      all_goals rfl
    · obtain rfl : k = 2 := by omega
      repeat ((try conv => whnf); first | (refine And.intro rfl ?_) | (refine w_addn (by omega) ?_) | (refine w_subn (by omega) ?_) | (refine w_add (by omega) ?_) | (refine w_sub (by omega) ?_) | (refine w_any (by omega) ?_) | (refine Exists.intro _ (And.intro rfl ?_)) | (with_reducible (refine cb_t rfl ?_)) | (with_reducible (refine cb_f rfl ?_)) | (refine cb_dt (by omega) ?_) | (refine cb_df (by omega) ?_) | (refine cb_nt (by omega) ?_) | (refine cb_nf (by omega) ?_) | (refine cb_t (by assumption) ?_) | (refine cb_f (by assumption) ?_) | (refine i_lt (by omega) ?_) | (refine i_le (by omega) ?_) | (refine i_cut (by omega) ?_) | (refine And.intro (by omega) ?_) | (refine And.intro trivial ?_) | (refine And.intro (by decide) ?_) | (refine And.intro (Nat.le_of_ble_eq_true rfl) ?_))
      (refine le_auto (by rfl) ?_ ?_) <;> (repeat' (first | (exact trivial) | (with_reducible rfl) | (exact (rfl : _ = true)) | (exact (rfl : _ = some _)) | (exact (rfl : _ = none)) | (refine And.intro ?_ ?_) | ((show (_ : Int) = _); omega) | ((fail_if_success (with_reducible (show _ = _))); (show _ = _))))
  · repeat ((try conv => whnf); first | (refine c_call ([_]) (kd2) (by ((repeat' (first | (exact trivial) | (exact rfl) | (decide) | (refine And.intro ?_ ?_))); first | done | fail)) (by ((repeat' (first | (exact trivial) | (exact rfl) | (decide) | (refine And.intro ?_ ?_))); first | done | fail)) (by decide) (by rfl) (by first | exact .inl rfl | (refine .inr ⟨?_, ?_⟩ <;> simp [own2, own1, own0, ownE])) ?_) | (refine And.intro (by kernel_rfl) ?_) | (refine And.intro rfl ?_) | (refine w_addn (by omega) ?_) | (refine w_subn (by omega) ?_) | (refine w_add (by omega) ?_) | (refine w_sub (by omega) ?_) | (refine w_any (by omega) ?_) | (refine Exists.intro _ (And.intro rfl ?_)) | (with_reducible (refine cb_t rfl ?_)) | (with_reducible (refine cb_f rfl ?_)) | (refine cb_dt (by omega) ?_) | (refine cb_df (by omega) ?_) | (refine cb_nt (by omega) ?_) | (refine cb_nf (by omega) ?_) | (refine cb_t (by assumption) ?_) | (refine cb_f (by assumption) ?_) | (refine i_lt (by omega) ?_) | (refine i_le (by omega) ?_) | (refine i_cut (by omega) ?_) | (refine And.intro (by omega) ?_) | (refine And.intro trivial ?_) | (refine And.intro (by decide) ?_) | (refine And.intro (Nat.le_of_ble_eq_true rfl) ?_))
    (refine ans_auto (by rfl) ?_ ?_ (by rfl)) <;> (repeat' (first | (exact trivial) | (with_reducible rfl) | (exact (rfl : _ = true)) | (exact (rfl : _ = some _)) | (exact (rfl : _ = none)) | (refine And.intro ?_ ?_) | ((show (_ : Int) = _); omega) | ((fail_if_success (with_reducible (show _ = _))); (show _ = _))))
end Go.Proofs.YtigfpjnjjndenaaGreatDoor
