/- The pins of honest providers are their heads: both functions by content. -/
import Derived.Test.YtigfpjnjjndenaaExT
import Derived.Test.YtigfpjnjjndenaaFA
import Derived.Test.YtigfpjnjjndenaaV22
namespace Go.Proofs.Ytigfpjnjjndenaa
open Go.RowKit Pl
set_option linter.unusedVariables false
set_option linter.unusedSimpArgs false
attribute [local irreducible] CondB CallP LoopW AnsP LeP

theorem all_bad {α : Type} {f : α → Bool} {l : List α} {k : Nat} {x : α} (h : l[k]? = some x) (hx : f x = false) : l.all f = false := by
  rw [List.all_eq_false]
  obtain ⟨hk, rfl⟩ := List.getElem?_eq_some_iff.1 h
  exact ⟨_, List.getElem_mem hk, by simp [hx]⟩
theorem all_good {α : Type} {f : α → Bool} {l : List α} (h : ∀ (k : Nat) (x : α), l[k]? = some x → f x = true) : l.all f = true := by
  rw [List.all_eq_true]
  intro x hx
  obtain ⟨k, hk⟩ := List.getElem?_of_mem hx
  exact h k x hk
theorem inB_no {n lo hi : Int} (h : ¬ (lo ≤ n ∧ n ≤ hi)) : inB n lo hi = false := by
  cases hb : inB n lo hi
  · rfl
  · exact absurd (inB_iff.1 hb) h
theorem inB_yes {n lo hi : Int} (h : lo ≤ n ∧ n ≤ hi) : inB n lo hi = true := inB_iff.2 h
def evilT (ev : List (List T)) (h : Int) : Bool := inB h 0 ((ev.length : Int) - 1) && (match ev[h.toNat]? with | some [.bool b] => b | _ => false)
def headAt (ss : List (List T)) (e : Int) (h : List T) : Bool := match ss[(e - 1).toNat]? with
  | some s => eqC (s.take 4) h
  | none => false
def pinT (hs ev : List (List T)) (h e : Int) (r q : Bs) : Bool := evilT ev h || (inB h 0 ((hs.length : Int) - 1) && (match hs[h.toNat]? with
  | some ho => (match ho[5]? with
    | some (T.sl _ ss) => inB e 1 (ss.length : Int) && headAt ss e [.int .i64 h, .int .i64 e, .str r, .str q]
    | _ => false)
  | none => false))
def pinE (hs ev : List (List T)) (p : List T) : Bool := match p with
  | .int _ h :: .int _ e :: .str r :: .str q :: _ => pinT hs ev h e r q
  | _ => false
def pinsA (hs ev : List (List T)) (a : List T) : Bool := match a[4]? with
  | some (T.sl _ ps) => ps.all (pinE hs ev)
  | _ => false
theorem c_l29Evil (hs au ns gs ev cs : List (List T)) (h : Int) (qe : ev.length ≤ 1048576 ∧ ∀ e ∈ ev, Fits 1048576 .bool e) : CT Try.prog 51 [] [.agg [.sl 14 hs, .sl 6 au, .sl 2 ns, .sl 7 gs, .sl 1 ev, .sl 1 cs], .int .i64 h] (.bool (evilT ev h)) [] := by
  have qn := qe.1
  have c1 := c_l01In h 0 ((ev.length : Int) - 1)
  have e1 : IntKind.i64.wrap ((ev.length : Int) - 1) = (ev.length : Int) - 1 := wrap_i64 (by omega) (by omega)
  by_cases hin : 0 ≤ h ∧ h ≤ (ev.length : Int) - 1
  · obtain ⟨n, rfl⟩ : ∃ n : Nat, h = n := ⟨h.toNat, by omega⟩
    have hn : n < ev.length := by omega
    obtain ⟨b, hb⟩ := qe.2 _ (List.getElem_mem hn)
    have g : ev[n]? = some [.bool b] := by rw [List.getElem?_eq_getElem hn, hb]
    have hr : evilT ev (n : Int) = b := by
      unfold evilT
      rw [inB_yes hin, Int.toNat_natCast, g]; rfl
    rw [hr]
    rw [inB_yes hin] at c1
    refine ct_intro ttE_ok 1 rfl Try.func51 rfl rfl rfl ?_
    repeat ((try conv => whnf); first | (refine Exists.intro _ (And.intro e1.symm ?_)) | (refine c_call ([]) (c1) (by ((repeat' (first | (exact trivial) | (exact rfl) | (refine And.intro ?_ ?_))); first | done | fail)) (by ((repeat' (first | (exact trivial) | (exact rfl) | (refine And.intro ?_ ?_))); first | done | fail)) (by decide) (by rfl) (by first | exact .inl rfl | (refine .inr ⟨?_, ?_⟩ <;> simp [own2, own1, own0, ownE])) ?_) | (refine i_at g ?_) | (refine And.intro rfl ?_) | (refine w_addn (by omega) ?_) | (refine w_subn (by omega) ?_) | (refine w_add (by omega) ?_) | (refine w_sub (by omega) ?_) | (refine w_any (by omega) ?_) | (refine Exists.intro _ (And.intro rfl ?_)) | (with_reducible (refine cb_t rfl ?_)) | (with_reducible (refine cb_f rfl ?_)) | (refine cb_dt (by omega) ?_) | (refine cb_df (by omega) ?_) | (refine cb_nt (by omega) ?_) | (refine cb_nf (by omega) ?_) | (refine cb_t (by assumption) ?_) | (refine cb_f (by assumption) ?_) | (refine i_lt (by omega) ?_) | (refine i_le (by omega) ?_) | (refine i_cut (by omega) ?_) | (refine And.intro (by omega) ?_) | (refine And.intro trivial ?_) | (refine And.intro (by decide) ?_) | (refine And.intro (Nat.le_of_ble_eq_true rfl) ?_))
    (refine ans_auto (by rfl) ?_ ?_ (by rfl)) <;> repeat' (first | (exact trivial) | (with_reducible rfl) | (exact (rfl : _ = true)) | (exact (rfl : _ = some _)) | (exact (rfl : _ = none)) | (refine And.intro ?_ ?_) | ((show (_ : Int) = _); omega) | ((fail_if_success (with_reducible (show _ = _))); (show _ = _)))
  · have hr : evilT ev h = false := by unfold evilT; rw [inB_no hin]; rfl
    rw [hr]
    rw [inB_no hin] at c1
    refine ct_intro ttE_ok 1 rfl Try.func51 rfl rfl rfl ?_
    repeat ((try conv => whnf); first | (refine Exists.intro _ (And.intro e1.symm ?_)) | (refine c_call ([]) (c1) (by ((repeat' (first | (exact trivial) | (exact rfl) | (refine And.intro ?_ ?_))); first | done | fail)) (by ((repeat' (first | (exact trivial) | (exact rfl) | (refine And.intro ?_ ?_))); first | done | fail)) (by decide) (by rfl) (by first | exact .inl rfl | (refine .inr ⟨?_, ?_⟩ <;> simp [own2, own1, own0, ownE])) ?_) | (refine And.intro rfl ?_) | (refine w_addn (by omega) ?_) | (refine w_subn (by omega) ?_) | (refine w_add (by omega) ?_) | (refine w_sub (by omega) ?_) | (refine w_any (by omega) ?_) | (refine Exists.intro _ (And.intro rfl ?_)) | (with_reducible (refine cb_t rfl ?_)) | (with_reducible (refine cb_f rfl ?_)) | (refine cb_dt (by omega) ?_) | (refine cb_df (by omega) ?_) | (refine cb_nt (by omega) ?_) | (refine cb_nf (by omega) ?_) | (refine cb_t (by assumption) ?_) | (refine cb_f (by assumption) ?_) | (refine i_lt (by omega) ?_) | (refine i_le (by omega) ?_) | (refine i_cut (by omega) ?_) | (refine And.intro (by omega) ?_) | (refine And.intro trivial ?_) | (refine And.intro (by decide) ?_) | (refine And.intro (Nat.le_of_ble_eq_true rfl) ?_))
    (refine ans_auto (by rfl) ?_ ?_ (by rfl)) <;> repeat' (first | (exact trivial) | (with_reducible rfl) | (exact (rfl : _ = true)) | (exact (rfl : _ = some _)) | (exact (rfl : _ = none)) | (refine And.intro ?_ ?_) | ((show (_ : Int) = _); omega) | ((fail_if_success (with_reducible (show _ = _))); (show _ = _)))
set_option maxRecDepth 100000 in
set_option maxHeartbeats 4000000 in
theorem c_PinsTrue (hs au ns gs ev cs : List (List T)) (qh : hs.length ≤ 1048576 ∧ ∀ e ∈ hs, Fits 1048576 sh_House e) (qa : au.length ≤ 1048576 ∧ ∀ e ∈ au, Fits 1048576 sh_Auditor e) (qe : ev.length ≤ 1048576 ∧ ∀ e ∈ ev, Fits 1048576 .bool e) :
    CT Try.prog 13 [] [.agg [.sl 14 hs, .sl 6 au, .sl 2 ns, .sl 7 gs, .sl 1 ev, .sl 1 cs]] (.bool (au.all (pinsA hs ev))) [] := by
  have qn := qh.1
  have qn2 := qa.1
  have qn3 := qe.1
  refine ct_intro ttE_ok 1 rfl Try.func13 rfl rfl rfl ?_
  repeat ((try conv => whnf); first | (refine And.intro rfl ?_) | (refine w_addn (by omega) ?_) | (refine w_subn (by omega) ?_) | (refine w_add (by omega) ?_) | (refine w_sub (by omega) ?_) | (refine w_any (by omega) ?_) | (refine Exists.intro _ (And.intro rfl ?_)) | (with_reducible (refine cb_t rfl ?_)) | (with_reducible (refine cb_f rfl ?_)) | (refine cb_dt (by omega) ?_) | (refine cb_df (by omega) ?_) | (refine cb_nt (by omega) ?_) | (refine cb_nf (by omega) ?_) | (refine cb_t (by assumption) ?_) | (refine cb_f (by assumption) ?_) | (refine i_lt (by omega) ?_) | (refine i_le (by omega) ?_) | (refine i_cut (by omega) ?_) | (refine And.intro (by omega) ?_) | (refine And.intro trivial ?_) | (refine And.intro (by decide) ?_) | (refine And.intro (Nat.le_of_ble_eq_true rfl) ?_))
  refine loop_op Nat (fun i => ⟨[(1, .ptr 1 0 0), (10, .sl 6 au), (11, .int .i64 (au.length : Int)), (12, .int .i64 (i : Int))], [(1, some (.box [.sl 14 hs, .sl 6 au, .sl 2 ns, .sl 7 gs, .sl 1 ev, .sl 1 cs]))], 2⟩) (fun i => i ≤ au.length ∧ ∀ k x, k < i → au[k]? = some x → pinsA hs ev x = true) (fun i => au.length - i) 0 ⟨by omega, fun k x hk => by omega⟩ ?_ ?_
  · (refine le_auto (by rfl) ?_ ?_) <;> repeat' (first | (exact trivial) | (with_reducible rfl) | (exact (rfl : _ = true)) | (exact (rfl : _ = some _)) | (exact (rfl : _ = none)) | (refine And.intro ?_ ?_) | ((show (_ : Int) = _); omega) | ((fail_if_success (with_reducible (show _ = _))); (show _ = _)))
  · intro Q1 hQ1 i hx
    have hi : i ≤ au.length := hx.1
    have hp := hx.2
    clear hx
    by_cases hlt : i < au.length
    · have hlt2 : (i : Int) < (au.length : Int) := by omega
      have ga : au[i]? = some au[i] := List.getElem?_eq_getElem hlt
      have hfa := qa.2 _ (List.getElem_mem hlt)
      generalize au[i] = a at ga hfa
      obtain ⟨n0, b1, z2, z3, z4, z5, rfl, -, -, -, -, qp, -⟩ := fits_Auditor hfa
      have qn4 := qp.1
      have hbad : ∀ k x, z4[k]? = some x → pinE hs ev x = false → au.all (pinsA hs ev) = false := fun k x hk hx => all_bad ga (all_bad hk hx)
      have hgood : (∀ k x, z4[k]? = some x → pinE hs ev x = true) → ∀ k x, k < i + 1 → au[k]? = some x → pinsA hs ev x = true := fun hz k x hk hx => by
        by_cases hki : k = i
        · subst hki
          rw [ga] at hx
          injection hx with hx
          subst hx
          exact all_good hz
        · exact hp k x (by omega) hx
      clear hp
      repeat ((try conv => whnf); first | (refine i_at ga ?_) | (refine And.intro rfl ?_) | (refine w_addn (by omega) ?_) | (refine w_subn (by omega) ?_) | (refine w_add (by omega) ?_) | (refine w_sub (by omega) ?_) | (refine w_any (by omega) ?_) | (refine Exists.intro _ (And.intro rfl ?_)) | (with_reducible (refine cb_t rfl ?_)) | (with_reducible (refine cb_f rfl ?_)) | (refine cb_dt (by omega) ?_) | (refine cb_df (by omega) ?_) | (refine cb_nt (by omega) ?_) | (refine cb_nf (by omega) ?_) | (refine cb_t (by assumption) ?_) | (refine cb_f (by assumption) ?_) | (refine i_lt (by omega) ?_) | (refine i_le (by omega) ?_) | (refine i_cut (by omega) ?_) | (refine And.intro (by omega) ?_) | (refine And.intro trivial ?_) | (refine And.intro (by decide) ?_) | (refine And.intro (Nat.le_of_ble_eq_true rfl) ?_))
      refine loop_op Nat (fun j => ⟨[(1, .ptr 1 0 0), (10, .sl 6 au), (11, .int .i64 (au.length : Int)), (12, .int .i64 (i : Int)), (17, .sl 8 z4), (18, .int .i64 (z4.length : Int)), (19, .int .i64 (j : Int))], [(1, some (.box [.sl 14 hs, .sl 6 au, .sl 2 ns, .sl 7 gs, .sl 1 ev, .sl 1 cs]))], 2⟩) (fun j => j ≤ z4.length ∧ ∀ k x, k < j → z4[k]? = some x → pinE hs ev x = true) (fun j => z4.length - j) 0 ⟨by omega, fun k x hk => by omega⟩ ?_ ?_
      · (refine le_auto (by rfl) ?_ ?_) <;> repeat' (first | (exact trivial) | (with_reducible rfl) | (exact (rfl : _ = true)) | (exact (rfl : _ = some _)) | (exact (rfl : _ = none)) | (refine And.intro ?_ ?_) | ((show (_ : Int) = _); omega) | ((fail_if_success (with_reducible (show _ = _))); (show _ = _)))
      · intro Q2 hQ2 j hx
        have hj : j ≤ z4.length := hx.1
        have hp := hx.2
        clear hx
        by_cases hjl : j < z4.length
        · have hjl2 : (j : Int) < (z4.length : Int) := by omega
          have gp : z4[j]? = some z4[j] := List.getElem?_eq_getElem hjl
          have hfp := qp.2 _ (List.getElem_mem hjl)
          generalize z4[j] = p at gp hfp
          obtain ⟨h, e, r, q, m4, w5, w6, w7, rfl, -, bh, -⟩ := fits_Seal hfp
          have hb2 : pinT hs ev h e r q = false → au.all (pinsA hs ev) = false := fun hx => hbad j _ gp hx
          have hg2 : pinT hs ev h e r q = true → ∀ k x, k < j + 1 → z4[k]? = some x → pinE hs ev x = true := fun hx k x hk hkx => by
            by_cases hkj : k = j
            · subst hkj
              rw [gp] at hkx
              injection hkx with hkx
              subst hkx
              exact hx
            · exact hp k x (by omega) hkx
          clear hp hbad
          have c1 := c_in h 0 ((ev.length : Int) - 1)
          have e1 : IntKind.i64.wrap ((ev.length : Int) - 1) = (ev.length : Int) - 1 := wrap_i64 (by omega) (by omega)
          have e2 : IntKind.i64.wrap ((hs.length : Int) - 1) = (hs.length : Int) - 1 := wrap_i64 (by omega) (by omega)
          have c2 := c_in h 0 ((hs.length : Int) - 1)
          by_cases hev : evilT ev h = true
          · have hin : 0 ≤ h ∧ h ≤ (ev.length : Int) - 1 := by
              unfold evilT at hev
              rw [Bool.and_eq_true, inB_iff] at hev
              exact hev.1
            obtain ⟨n, rfl⟩ : ∃ n : Nat, h = n := ⟨h.toNat, by omega⟩
            have hn : n < ev.length := by omega
            obtain ⟨b, hb⟩ := qe.2 _ (List.getElem_mem hn)
            have g : ev[n]? = some [.bool b] := by rw [List.getElem?_eq_getElem hn, hb]
            have hb1 : b = true := by
              unfold evilT at hev
              rw [inB_yes hin, Int.toNat_natCast, g] at hev
              exact hev
            subst hb1
            rw [inB_yes hin] at c1
            repeat ((try conv => whnf); first | (refine i_at gp ?_) | (refine Exists.intro _ (And.intro e1.symm ?_)) | (refine c_call ([]) (c1) (by ((repeat' (first | (exact trivial) | (exact rfl) | (refine And.intro ?_ ?_))); first | done | fail)) (by ((repeat' (first | (exact trivial) | (exact rfl) | (refine And.intro ?_ ?_))); first | done | fail)) (by decide) (by rfl) (by first | exact .inl rfl | (refine .inr ⟨?_, ?_⟩ <;> simp [own2, own1, own0, ownE])) ?_) | (refine i_at g ?_) | (refine And.intro rfl ?_) | (refine w_addn (by omega) ?_) | (refine w_subn (by omega) ?_) | (refine w_add (by omega) ?_) | (refine w_sub (by omega) ?_) | (refine w_any (by omega) ?_) | (refine Exists.intro _ (And.intro rfl ?_)) | (with_reducible (refine cb_t rfl ?_)) | (with_reducible (refine cb_f rfl ?_)) | (refine cb_dt (by omega) ?_) | (refine cb_df (by omega) ?_) | (refine cb_nt (by omega) ?_) | (refine cb_nf (by omega) ?_) | (refine cb_t (by assumption) ?_) | (refine cb_f (by assumption) ?_) | (refine i_lt (by omega) ?_) | (refine i_le (by omega) ?_) | (refine i_cut (by omega) ?_) | (refine And.intro (by omega) ?_) | (refine And.intro trivial ?_) | (refine And.intro (by decide) ?_) | (refine And.intro (Nat.le_of_ble_eq_true rfl) ?_))
            refine ⟨j + 1, ⟨by omega, hg2 (by unfold pinT; rw [hev]; rfl)⟩, by omega, ?_⟩
            (refine le_auto (by rfl) ?_ ?_) <;> repeat' (first | (exact trivial) | (with_reducible rfl) | (exact (rfl : _ = true)) | (exact (rfl : _ = some _)) | (exact (rfl : _ = none)) | (refine And.intro ?_ ?_) | ((show (_ : Int) = _); omega) | ((fail_if_success (with_reducible (show _ = _))); (show _ = _)))
          · have hev : evilT ev h = false := by simpa using hev
            have hpt : pinT hs ev h e r q = (inB h 0 ((hs.length : Int) - 1) && (match hs[h.toNat]? with
                | some ho => (match ho[5]? with
                  | some (T.sl _ ss) => inB e 1 (ss.length : Int) && headAt ss e [.int .i64 h, .int .i64 e, .str r, .str q]
                  | _ => false)
                | none => false)) := by unfold pinT; rw [hev]; rfl
            rw [hpt] at hb2 hg2
            clear hpt
            -- both ways through the first test
            have key : ∀ (K : Prop), (∀ n b, h = ((n : Nat) : Int) → ev[n]? = some [.bool b] → b = false → inB h 0 ((ev.length : Int) - 1) = true → K) → (inB h 0 ((ev.length : Int) - 1) = false → K) → K := fun K k1 k2 => by
              by_cases hin : 0 ≤ h ∧ h ≤ (ev.length : Int) - 1
              · obtain ⟨n, rfl⟩ : ∃ n : Nat, h = n := ⟨h.toNat, by omega⟩
                have hn : n < ev.length := by omega
                obtain ⟨b, hb⟩ := qe.2 _ (List.getElem_mem hn)
                have g : ev[n]? = some [.bool b] := by rw [List.getElem?_eq_getElem hn, hb]
                refine k1 n b rfl g ?_ (inB_yes hin)
                unfold evilT at hev
                rw [inB_yes hin, Int.toNat_natCast, g] at hev
                exact hev
              · exact k2 (inB_no hin)
            by_cases hin : 0 ≤ h ∧ h ≤ (hs.length : Int) - 1
            · rw [inB_yes hin] at c2 hb2 hg2
              obtain ⟨n, hn0⟩ : ∃ n : Nat, h = n := ⟨h.toNat, by omega⟩
              subst hn0
              have hn : n < hs.length := by omega
              have gh : hs[n]? = some hs[n] := List.getElem?_eq_getElem hn
              have hfh := qh.2 _ (List.getElem_mem hn)
              generalize hs[n] = ho at gh hfh
              rw [Int.toNat_natCast, gh] at hb2 hg2
              obtain ⟨a0, a1, a2, a3, a4, a5, a6, a7, a8, a9, a10, a11, a12, a13, rfl, -, -, -, -, -, qs, -⟩ := fits_House hfh
              have hb3 : (inB e 1 (a5.length : Int) && headAt a5 e [.int .i64 (n : Int), .int .i64 e, .str r, .str q]) = false → au.all (pinsA hs ev) = false := hb2
              have hg3 : (inB e 1 (a5.length : Int) && headAt a5 e [.int .i64 (n : Int), .int .i64 e, .str r, .str q]) = true → ∀ k x, k < j + 1 → z4[k]? = some x → pinE hs ev x = true := hg2
              clear hb2 hg2
              have qn5 := qs.1
              have c3 := c_in e 1 (a5.length : Int)
              by_cases hin2 : 1 ≤ e ∧ e ≤ (a5.length : Int)
              · obtain ⟨m, rfl⟩ : ∃ m : Nat, e = m := ⟨e.toNat, by omega⟩
                have hm : m - 1 < a5.length := by omega
                have gs2 : a5[m - 1]? = some a5[m - 1] := List.getElem?_eq_getElem hm
                have hfs := qs.2 _ (List.getElem_mem hm)
                generalize a5[m - 1] = s at gs2 hfs
                obtain ⟨y0, y1, y2, y3, y4, y5, y6, y7, rfl, -⟩ := fits_Seal hfs
                have hhd : headAt a5 (m : Int) [.int .i64 (n : Int), .int .i64 (m : Int), .str r, .str q] = eqC [.int .i64 y0, .int .i64 y1, .str y2, .str y3] [.int .i64 (n : Int), .int .i64 (m : Int), .str r, .str q] := by
                  unfold headAt
                  rw [show ((m : Int) - 1).toNat = m - 1 by omega, gs2]; rfl
                rw [inB_yes hin2, hhd, Bool.true_and] at hb3 hg3
                rw [inB_yes hin2] at c3
                have h1m : 1 ≤ m := by omega
                cases hq : eqC [.int .i64 y0, .int .i64 y1, .str y2, .str y3] [.int .i64 (n : Int), .int .i64 (m : Int), .str r, .str q] with
                | true =>
                  refine key _ (fun n' b he g hb hi1 => ?_) (fun hi1 => ?_)
                  · have : n = n' := by omega
                    subst this
                    subst hb
                    rw [hi1] at c1
                    repeat ((try conv => whnf); first | (refine i_at gp ?_) | (refine Exists.intro _ (And.intro e1.symm ?_)) | (refine c_call ([]) (c1) (by ((repeat' (first | (exact trivial) | (exact rfl) | (refine And.intro ?_ ?_))); first | done | fail)) (by ((repeat' (first | (exact trivial) | (exact rfl) | (refine And.intro ?_ ?_))); first | done | fail)) (by decide) (by rfl) (by first | exact .inl rfl | (refine .inr ⟨?_, ?_⟩ <;> simp [own2, own1, own0, ownE])) ?_) | (refine i_at g ?_) | (refine Exists.intro _ (And.intro e2.symm ?_)) | (refine c_call ([]) (c2) (by ((repeat' (first | (exact trivial) | (exact rfl) | (refine And.intro ?_ ?_))); first | done | fail)) (by ((repeat' (first | (exact trivial) | (exact rfl) | (refine And.intro ?_ ?_))); first | done | fail)) (by decide) (by rfl) (by first | exact .inl rfl | (refine .inr ⟨?_, ?_⟩ <;> simp [own2, own1, own0, ownE])) ?_) | (refine i_at gh ?_) | (refine c_call ([]) (c3) (by ((repeat' (first | (exact trivial) | (exact rfl) | (refine And.intro ?_ ?_))); first | done | fail)) (by ((repeat' (first | (exact trivial) | (exact rfl) | (refine And.intro ?_ ?_))); first | done | fail)) (by decide) (by rfl) (by first | exact .inl rfl | (refine .inr ⟨?_, ?_⟩ <;> simp [own2, own1, own0, ownE])) ?_) | (refine i_at gs2 ?_) | (refine cb_f (congrArg (!·) hq) ?_) | (refine And.intro rfl ?_) | (refine w_addn (by omega) ?_) | (refine w_subn (by omega) ?_) | (refine w_add (by omega) ?_) | (refine w_sub (by omega) ?_) | (refine w_any (by omega) ?_) | (refine Exists.intro _ (And.intro rfl ?_)) | (with_reducible (refine cb_t rfl ?_)) | (with_reducible (refine cb_f rfl ?_)) | (refine cb_dt (by omega) ?_) | (refine cb_df (by omega) ?_) | (refine cb_nt (by omega) ?_) | (refine cb_nf (by omega) ?_) | (refine cb_t (by assumption) ?_) | (refine cb_f (by assumption) ?_) | (refine i_lt (by omega) ?_) | (refine i_le (by omega) ?_) | (refine i_cut (by omega) ?_) | (refine And.intro (by omega) ?_) | (refine And.intro trivial ?_) | (refine And.intro (by decide) ?_) | (refine And.intro (Nat.le_of_ble_eq_true rfl) ?_))
                    refine ⟨j + 1, ⟨by omega, hg3 hq⟩, by omega, ?_⟩
                    (refine le_auto (by rfl) ?_ ?_) <;> repeat' (first | (exact trivial) | (with_reducible rfl) | (exact (rfl : _ = true)) | (exact (rfl : _ = some _)) | (exact (rfl : _ = none)) | (refine And.intro ?_ ?_) | ((show (_ : Int) = _); omega) | ((fail_if_success (with_reducible (show _ = _))); (show _ = _)))
                  · rw [hi1] at c1
                    repeat ((try conv => whnf); first | (refine i_at gp ?_) | (refine Exists.intro _ (And.intro e1.symm ?_)) | (refine c_call ([]) (c1) (by ((repeat' (first | (exact trivial) | (exact rfl) | (refine And.intro ?_ ?_))); first | done | fail)) (by ((repeat' (first | (exact trivial) | (exact rfl) | (refine And.intro ?_ ?_))); first | done | fail)) (by decide) (by rfl) (by first | exact .inl rfl | (refine .inr ⟨?_, ?_⟩ <;> simp [own2, own1, own0, ownE])) ?_) | (refine Exists.intro _ (And.intro e2.symm ?_)) | (refine c_call ([]) (c2) (by ((repeat' (first | (exact trivial) | (exact rfl) | (refine And.intro ?_ ?_))); first | done | fail)) (by ((repeat' (first | (exact trivial) | (exact rfl) | (refine And.intro ?_ ?_))); first | done | fail)) (by decide) (by rfl) (by first | exact .inl rfl | (refine .inr ⟨?_, ?_⟩ <;> simp [own2, own1, own0, ownE])) ?_) | (refine i_at gh ?_) | (refine c_call ([]) (c3) (by ((repeat' (first | (exact trivial) | (exact rfl) | (refine And.intro ?_ ?_))); first | done | fail)) (by ((repeat' (first | (exact trivial) | (exact rfl) | (refine And.intro ?_ ?_))); first | done | fail)) (by decide) (by rfl) (by first | exact .inl rfl | (refine .inr ⟨?_, ?_⟩ <;> simp [own2, own1, own0, ownE])) ?_) | (refine i_at gs2 ?_) | (refine cb_f (congrArg (!·) hq) ?_) | (refine And.intro rfl ?_) | (refine w_addn (by omega) ?_) | (refine w_subn (by omega) ?_) | (refine w_add (by omega) ?_) | (refine w_sub (by omega) ?_) | (refine w_any (by omega) ?_) | (refine Exists.intro _ (And.intro rfl ?_)) | (with_reducible (refine cb_t rfl ?_)) | (with_reducible (refine cb_f rfl ?_)) | (refine cb_dt (by omega) ?_) | (refine cb_df (by omega) ?_) | (refine cb_nt (by omega) ?_) | (refine cb_nf (by omega) ?_) | (refine cb_t (by assumption) ?_) | (refine cb_f (by assumption) ?_) | (refine i_lt (by omega) ?_) | (refine i_le (by omega) ?_) | (refine i_cut (by omega) ?_) | (refine And.intro (by omega) ?_) | (refine And.intro trivial ?_) | (refine And.intro (by decide) ?_) | (refine And.intro (Nat.le_of_ble_eq_true rfl) ?_))
                    refine ⟨j + 1, ⟨by omega, hg3 hq⟩, by omega, ?_⟩
                    (refine le_auto (by rfl) ?_ ?_) <;> repeat' (first | (exact trivial) | (with_reducible rfl) | (exact (rfl : _ = true)) | (exact (rfl : _ = some _)) | (exact (rfl : _ = none)) | (refine And.intro ?_ ?_) | ((show (_ : Int) = _); omega) | ((fail_if_success (with_reducible (show _ = _))); (show _ = _)))
                | false =>
                  refine key _ (fun n' b he g hb hi1 => ?_) (fun hi1 => ?_)
                  · have : n = n' := by omega
                    subst this
                    subst hb
                    rw [hi1] at c1
                    repeat ((try conv => whnf); first | (refine i_at gp ?_) | (refine Exists.intro _ (And.intro e1.symm ?_)) | (refine c_call ([]) (c1) (by ((repeat' (first | (exact trivial) | (exact rfl) | (refine And.intro ?_ ?_))); first | done | fail)) (by ((repeat' (first | (exact trivial) | (exact rfl) | (refine And.intro ?_ ?_))); first | done | fail)) (by decide) (by rfl) (by first | exact .inl rfl | (refine .inr ⟨?_, ?_⟩ <;> simp [own2, own1, own0, ownE])) ?_) | (refine i_at g ?_) | (refine Exists.intro _ (And.intro e2.symm ?_)) | (refine c_call ([]) (c2) (by ((repeat' (first | (exact trivial) | (exact rfl) | (refine And.intro ?_ ?_))); first | done | fail)) (by ((repeat' (first | (exact trivial) | (exact rfl) | (refine And.intro ?_ ?_))); first | done | fail)) (by decide) (by rfl) (by first | exact .inl rfl | (refine .inr ⟨?_, ?_⟩ <;> simp [own2, own1, own0, ownE])) ?_) | (refine i_at gh ?_) | (refine c_call ([]) (c3) (by ((repeat' (first | (exact trivial) | (exact rfl) | (refine And.intro ?_ ?_))); first | done | fail)) (by ((repeat' (first | (exact trivial) | (exact rfl) | (refine And.intro ?_ ?_))); first | done | fail)) (by decide) (by rfl) (by first | exact .inl rfl | (refine .inr ⟨?_, ?_⟩ <;> simp [own2, own1, own0, ownE])) ?_) | (refine i_at gs2 ?_) | (refine cb_t (congrArg (!·) hq) ?_) | (refine And.intro rfl ?_) | (refine w_addn (by omega) ?_) | (refine w_subn (by omega) ?_) | (refine w_add (by omega) ?_) | (refine w_sub (by omega) ?_) | (refine w_any (by omega) ?_) | (refine Exists.intro _ (And.intro rfl ?_)) | (with_reducible (refine cb_t rfl ?_)) | (with_reducible (refine cb_f rfl ?_)) | (refine cb_dt (by omega) ?_) | (refine cb_df (by omega) ?_) | (refine cb_nt (by omega) ?_) | (refine cb_nf (by omega) ?_) | (refine cb_t (by assumption) ?_) | (refine cb_f (by assumption) ?_) | (refine i_lt (by omega) ?_) | (refine i_le (by omega) ?_) | (refine i_cut (by omega) ?_) | (refine And.intro (by omega) ?_) | (refine And.intro trivial ?_) | (refine And.intro (by decide) ?_) | (refine And.intro (Nat.le_of_ble_eq_true rfl) ?_))
                    refine hQ2 _ _ (hQ1 _ _ ?_)
                    (try conv => whnf)
                    rw [hb3 hq]
                    (refine ans_auto (by rfl) ?_ ?_ (by rfl)) <;> repeat' (first | (exact trivial) | (with_reducible rfl) | (exact (rfl : _ = true)) | (exact (rfl : _ = some _)) | (exact (rfl : _ = none)) | (refine And.intro ?_ ?_) | ((show (_ : Int) = _); omega) | ((fail_if_success (with_reducible (show _ = _))); (show _ = _)))
                  · rw [hi1] at c1
                    repeat ((try conv => whnf); first | (refine i_at gp ?_) | (refine Exists.intro _ (And.intro e1.symm ?_)) | (refine c_call ([]) (c1) (by ((repeat' (first | (exact trivial) | (exact rfl) | (refine And.intro ?_ ?_))); first | done | fail)) (by ((repeat' (first | (exact trivial) | (exact rfl) | (refine And.intro ?_ ?_))); first | done | fail)) (by decide) (by rfl) (by first | exact .inl rfl | (refine .inr ⟨?_, ?_⟩ <;> simp [own2, own1, own0, ownE])) ?_) | (refine Exists.intro _ (And.intro e2.symm ?_)) | (refine c_call ([]) (c2) (by ((repeat' (first | (exact trivial) | (exact rfl) | (refine And.intro ?_ ?_))); first | done | fail)) (by ((repeat' (first | (exact trivial) | (exact rfl) | (refine And.intro ?_ ?_))); first | done | fail)) (by decide) (by rfl) (by first | exact .inl rfl | (refine .inr ⟨?_, ?_⟩ <;> simp [own2, own1, own0, ownE])) ?_) | (refine i_at gh ?_) | (refine c_call ([]) (c3) (by ((repeat' (first | (exact trivial) | (exact rfl) | (refine And.intro ?_ ?_))); first | done | fail)) (by ((repeat' (first | (exact trivial) | (exact rfl) | (refine And.intro ?_ ?_))); first | done | fail)) (by decide) (by rfl) (by first | exact .inl rfl | (refine .inr ⟨?_, ?_⟩ <;> simp [own2, own1, own0, ownE])) ?_) | (refine i_at gs2 ?_) | (refine cb_t (congrArg (!·) hq) ?_) | (refine And.intro rfl ?_) | (refine w_addn (by omega) ?_) | (refine w_subn (by omega) ?_) | (refine w_add (by omega) ?_) | (refine w_sub (by omega) ?_) | (refine w_any (by omega) ?_) | (refine Exists.intro _ (And.intro rfl ?_)) | (with_reducible (refine cb_t rfl ?_)) | (with_reducible (refine cb_f rfl ?_)) | (refine cb_dt (by omega) ?_) | (refine cb_df (by omega) ?_) | (refine cb_nt (by omega) ?_) | (refine cb_nf (by omega) ?_) | (refine cb_t (by assumption) ?_) | (refine cb_f (by assumption) ?_) | (refine i_lt (by omega) ?_) | (refine i_le (by omega) ?_) | (refine i_cut (by omega) ?_) | (refine And.intro (by omega) ?_) | (refine And.intro trivial ?_) | (refine And.intro (by decide) ?_) | (refine And.intro (Nat.le_of_ble_eq_true rfl) ?_))
                    refine hQ2 _ _ (hQ1 _ _ ?_)
                    (try conv => whnf)
                    rw [hb3 hq]
                    (refine ans_auto (by rfl) ?_ ?_ (by rfl)) <;> repeat' (first | (exact trivial) | (with_reducible rfl) | (exact (rfl : _ = true)) | (exact (rfl : _ = some _)) | (exact (rfl : _ = none)) | (refine And.intro ?_ ?_) | ((show (_ : Int) = _); omega) | ((fail_if_success (with_reducible (show _ = _))); (show _ = _)))
              · rw [inB_no hin2] at hb3 c3
                refine key _ (fun n' b he g hb hi1 => ?_) (fun hi1 => ?_)
                · have : n = n' := by omega
                  subst this
                  subst hb
                  rw [hi1] at c1
                  repeat ((try conv => whnf); first | (refine i_at gp ?_) | (refine Exists.intro _ (And.intro e1.symm ?_)) | (refine c_call ([]) (c1) (by ((repeat' (first | (exact trivial) | (exact rfl) | (refine And.intro ?_ ?_))); first | done | fail)) (by ((repeat' (first | (exact trivial) | (exact rfl) | (refine And.intro ?_ ?_))); first | done | fail)) (by decide) (by rfl) (by first | exact .inl rfl | (refine .inr ⟨?_, ?_⟩ <;> simp [own2, own1, own0, ownE])) ?_) | (refine i_at g ?_) | (refine Exists.intro _ (And.intro e2.symm ?_)) | (refine c_call ([]) (c2) (by ((repeat' (first | (exact trivial) | (exact rfl) | (refine And.intro ?_ ?_))); first | done | fail)) (by ((repeat' (first | (exact trivial) | (exact rfl) | (refine And.intro ?_ ?_))); first | done | fail)) (by decide) (by rfl) (by first | exact .inl rfl | (refine .inr ⟨?_, ?_⟩ <;> simp [own2, own1, own0, ownE])) ?_) | (refine i_at gh ?_) | (refine c_call ([]) (c3) (by ((repeat' (first | (exact trivial) | (exact rfl) | (refine And.intro ?_ ?_))); first | done | fail)) (by ((repeat' (first | (exact trivial) | (exact rfl) | (refine And.intro ?_ ?_))); first | done | fail)) (by decide) (by rfl) (by first | exact .inl rfl | (refine .inr ⟨?_, ?_⟩ <;> simp [own2, own1, own0, ownE])) ?_) | (refine And.intro rfl ?_) | (refine w_addn (by omega) ?_) | (refine w_subn (by omega) ?_) | (refine w_add (by omega) ?_) | (refine w_sub (by omega) ?_) | (refine w_any (by omega) ?_) | (refine Exists.intro _ (And.intro rfl ?_)) | (with_reducible (refine cb_t rfl ?_)) | (with_reducible (refine cb_f rfl ?_)) | (refine cb_dt (by omega) ?_) | (refine cb_df (by omega) ?_) | (refine cb_nt (by omega) ?_) | (refine cb_nf (by omega) ?_) | (refine cb_t (by assumption) ?_) | (refine cb_f (by assumption) ?_) | (refine i_lt (by omega) ?_) | (refine i_le (by omega) ?_) | (refine i_cut (by omega) ?_) | (refine And.intro (by omega) ?_) | (refine And.intro trivial ?_) | (refine And.intro (by decide) ?_) | (refine And.intro (Nat.le_of_ble_eq_true rfl) ?_))
                  refine hQ2 _ _ (hQ1 _ _ ?_)
                  (try conv => whnf)
                  rw [hb3 rfl]
                  (refine ans_auto (by rfl) ?_ ?_ (by rfl)) <;> repeat' (first | (exact trivial) | (with_reducible rfl) | (exact (rfl : _ = true)) | (exact (rfl : _ = some _)) | (exact (rfl : _ = none)) | (refine And.intro ?_ ?_) | ((show (_ : Int) = _); omega) | ((fail_if_success (with_reducible (show _ = _))); (show _ = _)))
                · rw [hi1] at c1
                  repeat ((try conv => whnf); first | (refine i_at gp ?_) | (refine Exists.intro _ (And.intro e1.symm ?_)) | (refine c_call ([]) (c1) (by ((repeat' (first | (exact trivial) | (exact rfl) | (refine And.intro ?_ ?_))); first | done | fail)) (by ((repeat' (first | (exact trivial) | (exact rfl) | (refine And.intro ?_ ?_))); first | done | fail)) (by decide) (by rfl) (by first | exact .inl rfl | (refine .inr ⟨?_, ?_⟩ <;> simp [own2, own1, own0, ownE])) ?_) | (refine Exists.intro _ (And.intro e2.symm ?_)) | (refine c_call ([]) (c2) (by ((repeat' (first | (exact trivial) | (exact rfl) | (refine And.intro ?_ ?_))); first | done | fail)) (by ((repeat' (first | (exact trivial) | (exact rfl) | (refine And.intro ?_ ?_))); first | done | fail)) (by decide) (by rfl) (by first | exact .inl rfl | (refine .inr ⟨?_, ?_⟩ <;> simp [own2, own1, own0, ownE])) ?_) | (refine i_at gh ?_) | (refine c_call ([]) (c3) (by ((repeat' (first | (exact trivial) | (exact rfl) | (refine And.intro ?_ ?_))); first | done | fail)) (by ((repeat' (first | (exact trivial) | (exact rfl) | (refine And.intro ?_ ?_))); first | done | fail)) (by decide) (by rfl) (by first | exact .inl rfl | (refine .inr ⟨?_, ?_⟩ <;> simp [own2, own1, own0, ownE])) ?_) | (refine And.intro rfl ?_) | (refine w_addn (by omega) ?_) | (refine w_subn (by omega) ?_) | (refine w_add (by omega) ?_) | (refine w_sub (by omega) ?_) | (refine w_any (by omega) ?_) | (refine Exists.intro _ (And.intro rfl ?_)) | (with_reducible (refine cb_t rfl ?_)) | (with_reducible (refine cb_f rfl ?_)) | (refine cb_dt (by omega) ?_) | (refine cb_df (by omega) ?_) | (refine cb_nt (by omega) ?_) | (refine cb_nf (by omega) ?_) | (refine cb_t (by assumption) ?_) | (refine cb_f (by assumption) ?_) | (refine i_lt (by omega) ?_) | (refine i_le (by omega) ?_) | (refine i_cut (by omega) ?_) | (refine And.intro (by omega) ?_) | (refine And.intro trivial ?_) | (refine And.intro (by decide) ?_) | (refine And.intro (Nat.le_of_ble_eq_true rfl) ?_))
                  refine hQ2 _ _ (hQ1 _ _ ?_)
                  (try conv => whnf)
                  rw [hb3 rfl]
                  (refine ans_auto (by rfl) ?_ ?_ (by rfl)) <;> repeat' (first | (exact trivial) | (with_reducible rfl) | (exact (rfl : _ = true)) | (exact (rfl : _ = some _)) | (exact (rfl : _ = none)) | (refine And.intro ?_ ?_) | ((show (_ : Int) = _); omega) | ((fail_if_success (with_reducible (show _ = _))); (show _ = _)))
            · rw [inB_no hin] at c2 hb2
              refine key _ (fun n' b he g hb hi1 => ?_) (fun hi1 => ?_)
              · subst he
                subst hb
                rw [hi1] at c1
                repeat ((try conv => whnf); first | (refine i_at gp ?_) | (refine Exists.intro _ (And.intro e1.symm ?_)) | (refine c_call ([]) (c1) (by ((repeat' (first | (exact trivial) | (exact rfl) | (refine And.intro ?_ ?_))); first | done | fail)) (by ((repeat' (first | (exact trivial) | (exact rfl) | (refine And.intro ?_ ?_))); first | done | fail)) (by decide) (by rfl) (by first | exact .inl rfl | (refine .inr ⟨?_, ?_⟩ <;> simp [own2, own1, own0, ownE])) ?_) | (refine i_at g ?_) | (refine Exists.intro _ (And.intro e2.symm ?_)) | (refine c_call ([]) (c2) (by ((repeat' (first | (exact trivial) | (exact rfl) | (refine And.intro ?_ ?_))); first | done | fail)) (by ((repeat' (first | (exact trivial) | (exact rfl) | (refine And.intro ?_ ?_))); first | done | fail)) (by decide) (by rfl) (by first | exact .inl rfl | (refine .inr ⟨?_, ?_⟩ <;> simp [own2, own1, own0, ownE])) ?_) | (refine And.intro rfl ?_) | (refine w_addn (by omega) ?_) | (refine w_subn (by omega) ?_) | (refine w_add (by omega) ?_) | (refine w_sub (by omega) ?_) | (refine w_any (by omega) ?_) | (refine Exists.intro _ (And.intro rfl ?_)) | (with_reducible (refine cb_t rfl ?_)) | (with_reducible (refine cb_f rfl ?_)) | (refine cb_dt (by omega) ?_) | (refine cb_df (by omega) ?_) | (refine cb_nt (by omega) ?_) | (refine cb_nf (by omega) ?_) | (refine cb_t (by assumption) ?_) | (refine cb_f (by assumption) ?_) | (refine i_lt (by omega) ?_) | (refine i_le (by omega) ?_) | (refine i_cut (by omega) ?_) | (refine And.intro (by omega) ?_) | (refine And.intro trivial ?_) | (refine And.intro (by decide) ?_) | (refine And.intro (Nat.le_of_ble_eq_true rfl) ?_))
                refine hQ2 _ _ (hQ1 _ _ ?_)
                (try conv => whnf)
                rw [hb2 rfl]
                (refine ans_auto (by rfl) ?_ ?_ (by rfl)) <;> repeat' (first | (exact trivial) | (with_reducible rfl) | (exact (rfl : _ = true)) | (exact (rfl : _ = some _)) | (exact (rfl : _ = none)) | (refine And.intro ?_ ?_) | ((show (_ : Int) = _); omega) | ((fail_if_success (with_reducible (show _ = _))); (show _ = _)))
              · rw [hi1] at c1
                repeat ((try conv => whnf); first | (refine i_at gp ?_) | (refine Exists.intro _ (And.intro e1.symm ?_)) | (refine c_call ([]) (c1) (by ((repeat' (first | (exact trivial) | (exact rfl) | (refine And.intro ?_ ?_))); first | done | fail)) (by ((repeat' (first | (exact trivial) | (exact rfl) | (refine And.intro ?_ ?_))); first | done | fail)) (by decide) (by rfl) (by first | exact .inl rfl | (refine .inr ⟨?_, ?_⟩ <;> simp [own2, own1, own0, ownE])) ?_) | (refine Exists.intro _ (And.intro e2.symm ?_)) | (refine c_call ([]) (c2) (by ((repeat' (first | (exact trivial) | (exact rfl) | (refine And.intro ?_ ?_))); first | done | fail)) (by ((repeat' (first | (exact trivial) | (exact rfl) | (refine And.intro ?_ ?_))); first | done | fail)) (by decide) (by rfl) (by first | exact .inl rfl | (refine .inr ⟨?_, ?_⟩ <;> simp [own2, own1, own0, ownE])) ?_) | (refine And.intro rfl ?_) | (refine w_addn (by omega) ?_) | (refine w_subn (by omega) ?_) | (refine w_add (by omega) ?_) | (refine w_sub (by omega) ?_) | (refine w_any (by omega) ?_) | (refine Exists.intro _ (And.intro rfl ?_)) | (with_reducible (refine cb_t rfl ?_)) | (with_reducible (refine cb_f rfl ?_)) | (refine cb_dt (by omega) ?_) | (refine cb_df (by omega) ?_) | (refine cb_nt (by omega) ?_) | (refine cb_nf (by omega) ?_) | (refine cb_t (by assumption) ?_) | (refine cb_f (by assumption) ?_) | (refine i_lt (by omega) ?_) | (refine i_le (by omega) ?_) | (refine i_cut (by omega) ?_) | (refine And.intro (by omega) ?_) | (refine And.intro trivial ?_) | (refine And.intro (by decide) ?_) | (refine And.intro (Nat.le_of_ble_eq_true rfl) ?_))
                refine hQ2 _ _ (hQ1 _ _ ?_)
                (try conv => whnf)
                rw [hb2 rfl]
                (refine ans_auto (by rfl) ?_ ?_ (by rfl)) <;> repeat' (first | (exact trivial) | (with_reducible rfl) | (exact (rfl : _ = true)) | (exact (rfl : _ = some _)) | (exact (rfl : _ = none)) | (refine And.intro ?_ ?_) | ((show (_ : Int) = _); omega) | ((fail_if_success (with_reducible (show _ = _))); (show _ = _)))
        · have hje : j = z4.length := by omega
          subst hje
          repeat ((try conv => whnf); first | (refine And.intro rfl ?_) | (refine w_addn (by omega) ?_) | (refine w_subn (by omega) ?_) | (refine w_add (by omega) ?_) | (refine w_sub (by omega) ?_) | (refine w_any (by omega) ?_) | (refine Exists.intro _ (And.intro rfl ?_)) | (with_reducible (refine cb_t rfl ?_)) | (with_reducible (refine cb_f rfl ?_)) | (refine cb_dt (by omega) ?_) | (refine cb_df (by omega) ?_) | (refine cb_nt (by omega) ?_) | (refine cb_nf (by omega) ?_) | (refine cb_t (by assumption) ?_) | (refine cb_f (by assumption) ?_) | (refine i_lt (by omega) ?_) | (refine i_le (by omega) ?_) | (refine i_cut (by omega) ?_) | (refine And.intro (by omega) ?_) | (refine And.intro trivial ?_) | (refine And.intro (by decide) ?_) | (refine And.intro (Nat.le_of_ble_eq_true rfl) ?_))
          refine hQ2 _ _ ?_
          repeat ((try conv => whnf); first | (refine And.intro rfl ?_) | (refine w_addn (by omega) ?_) | (refine w_subn (by omega) ?_) | (refine w_add (by omega) ?_) | (refine w_sub (by omega) ?_) | (refine w_any (by omega) ?_) | (refine Exists.intro _ (And.intro rfl ?_)) | (with_reducible (refine cb_t rfl ?_)) | (with_reducible (refine cb_f rfl ?_)) | (refine cb_dt (by omega) ?_) | (refine cb_df (by omega) ?_) | (refine cb_nt (by omega) ?_) | (refine cb_nf (by omega) ?_) | (refine cb_t (by assumption) ?_) | (refine cb_f (by assumption) ?_) | (refine i_lt (by omega) ?_) | (refine i_le (by omega) ?_) | (refine i_cut (by omega) ?_) | (refine And.intro (by omega) ?_) | (refine And.intro trivial ?_) | (refine And.intro (by decide) ?_) | (refine And.intro (Nat.le_of_ble_eq_true rfl) ?_))
          refine ⟨i + 1, ⟨by omega, hgood fun k x hkx => hp k x (List.getElem?_eq_some_iff.1 hkx).1 hkx⟩, by omega, ?_⟩
          (refine le_auto (by rfl) ?_ ?_) <;> repeat' (first | (exact trivial) | (with_reducible rfl) | (exact (rfl : _ = true)) | (exact (rfl : _ = some _)) | (exact (rfl : _ = none)) | (refine And.intro ?_ ?_) | ((show (_ : Int) = _); omega) | ((fail_if_success (with_reducible (show _ = _))); (show _ = _)))
    · have hie : i = au.length := by omega
      subst hie
      repeat ((try conv => whnf); first | (refine And.intro rfl ?_) | (refine w_addn (by omega) ?_) | (refine w_subn (by omega) ?_) | (refine w_add (by omega) ?_) | (refine w_sub (by omega) ?_) | (refine w_any (by omega) ?_) | (refine Exists.intro _ (And.intro rfl ?_)) | (with_reducible (refine cb_t rfl ?_)) | (with_reducible (refine cb_f rfl ?_)) | (refine cb_dt (by omega) ?_) | (refine cb_df (by omega) ?_) | (refine cb_nt (by omega) ?_) | (refine cb_nf (by omega) ?_) | (refine cb_t (by assumption) ?_) | (refine cb_f (by assumption) ?_) | (refine i_lt (by omega) ?_) | (refine i_le (by omega) ?_) | (refine i_cut (by omega) ?_) | (refine And.intro (by omega) ?_) | (refine And.intro trivial ?_) | (refine And.intro (by decide) ?_) | (refine And.intro (Nat.le_of_ble_eq_true rfl) ?_))
      refine hQ1 _ _ ?_
      repeat ((try conv => whnf); first | (refine And.intro rfl ?_) | (refine w_addn (by omega) ?_) | (refine w_subn (by omega) ?_) | (refine w_add (by omega) ?_) | (refine w_sub (by omega) ?_) | (refine w_any (by omega) ?_) | (refine Exists.intro _ (And.intro rfl ?_)) | (with_reducible (refine cb_t rfl ?_)) | (with_reducible (refine cb_f rfl ?_)) | (refine cb_dt (by omega) ?_) | (refine cb_df (by omega) ?_) | (refine cb_nt (by omega) ?_) | (refine cb_nf (by omega) ?_) | (refine cb_t (by assumption) ?_) | (refine cb_f (by assumption) ?_) | (refine i_lt (by omega) ?_) | (refine i_le (by omega) ?_) | (refine i_cut (by omega) ?_) | (refine And.intro (by omega) ?_) | (refine And.intro trivial ?_) | (refine And.intro (by decide) ?_) | (refine And.intro (Nat.le_of_ble_eq_true rfl) ?_))
      rw [all_good fun k x hkx => hp k x (List.getElem?_eq_some_iff.1 hkx).1 hkx]
      (refine ans_auto (by rfl) ?_ ?_ (by rfl)) <;> repeat' (first | (exact trivial) | (with_reducible rfl) | (exact (rfl : _ = true)) | (exact (rfl : _ = some _)) | (exact (rfl : _ = none)) | (refine And.intro ?_ ?_) | ((show (_ : Int) = _); omega) | ((fail_if_success (with_reducible (show _ = _))); (show _ = _)))
set_option maxRecDepth 100000 in
set_option maxHeartbeats 4000000 in
theorem c_sPinsTrue (hs au ns gs ev cs : List (List T)) (qh : hs.length ≤ 1048576 ∧ ∀ e ∈ hs, Fits 1048576 sh_House e) (qa : au.length ≤ 1048576 ∧ ∀ e ∈ au, Fits 1048576 sh_Auditor e) (qe : ev.length ≤ 1048576 ∧ ∀ e ∈ ev, Fits 1048576 .bool e) :
    CT Try.prog 11 [] [.agg [.sl 14 hs, .sl 6 au, .sl 2 ns, .sl 7 gs, .sl 1 ev, .sl 1 cs]] (.bool (au.all (pinsA hs ev))) [] := by
  have qn := qh.1
  have qn2 := qa.1
  have qn3 := qe.1
  refine ct_intro ttE_ok 1 rfl Try.func11 rfl rfl rfl ?_
  repeat ((try conv => whnf); first | (refine And.intro rfl ?_) | (refine w_addn (by omega) ?_) | (refine w_subn (by omega) ?_) | (refine w_add (by omega) ?_) | (refine w_sub (by omega) ?_) | (refine w_any (by omega) ?_) | (refine Exists.intro _ (And.intro rfl ?_)) | (with_reducible (refine cb_t rfl ?_)) | (with_reducible (refine cb_f rfl ?_)) | (refine cb_dt (by omega) ?_) | (refine cb_df (by omega) ?_) | (refine cb_nt (by omega) ?_) | (refine cb_nf (by omega) ?_) | (refine cb_t (by assumption) ?_) | (refine cb_f (by assumption) ?_) | (refine i_lt (by omega) ?_) | (refine i_le (by omega) ?_) | (refine i_cut (by omega) ?_) | (refine And.intro (by omega) ?_) | (refine And.intro trivial ?_) | (refine And.intro (by decide) ?_) | (refine And.intro (Nat.le_of_ble_eq_true rfl) ?_))
  refine loop_op Nat (fun i => ⟨[(1, .ptr 1 0 0), (3, .int .i64 (i : Int))], [(1, some (.box [.sl 14 hs, .sl 6 au, .sl 2 ns, .sl 7 gs, .sl 1 ev, .sl 1 cs]))], 2⟩) (fun i => i ≤ au.length ∧ ∀ k x, k < i → au[k]? = some x → pinsA hs ev x = true) (fun i => au.length - i) 0 ⟨by omega, fun k x hk => by omega⟩ ?_ ?_
  · (refine le_auto (by rfl) ?_ ?_) <;> repeat' (first | (exact trivial) | (with_reducible rfl) | (exact (rfl : _ = true)) | (exact (rfl : _ = some _)) | (exact (rfl : _ = none)) | (refine And.intro ?_ ?_) | ((show (_ : Int) = _); omega) | ((fail_if_success (with_reducible (show _ = _))); (show _ = _)))
  · intro Q1 hQ1 i hx
    have hi : i ≤ au.length := hx.1
    have hp := hx.2
    clear hx
    by_cases hlt : i < au.length
    · have hlt2 : (i : Int) < (au.length : Int) := by omega
      have ga : au[i]? = some au[i] := List.getElem?_eq_getElem hlt
      have hfa := qa.2 _ (List.getElem_mem hlt)
      generalize au[i] = a at ga hfa
      obtain ⟨n0, b1, z2, z3, z4, z5, rfl, -, -, -, -, qp, -⟩ := fits_Auditor hfa
      have qn4 := qp.1
      have hbad : ∀ k x, z4[k]? = some x → pinE hs ev x = false → au.all (pinsA hs ev) = false := fun k x hk hx => all_bad ga (all_bad hk hx)
      have hgood : (∀ k x, z4[k]? = some x → pinE hs ev x = true) → ∀ k x, k < i + 1 → au[k]? = some x → pinsA hs ev x = true := fun hz k x hk hx => by
        by_cases hki : k = i
        · subst hki
          rw [ga] at hx
          injection hx with hx
          subst hx
          exact all_good hz
        · exact hp k x (by omega) hx
      clear hp
      repeat ((try conv => whnf); first | (refine And.intro rfl ?_) | (refine w_addn (by omega) ?_) | (refine w_subn (by omega) ?_) | (refine w_add (by omega) ?_) | (refine w_sub (by omega) ?_) | (refine w_any (by omega) ?_) | (refine Exists.intro _ (And.intro rfl ?_)) | (with_reducible (refine cb_t rfl ?_)) | (with_reducible (refine cb_f rfl ?_)) | (refine cb_dt (by omega) ?_) | (refine cb_df (by omega) ?_) | (refine cb_nt (by omega) ?_) | (refine cb_nf (by omega) ?_) | (refine cb_t (by assumption) ?_) | (refine cb_f (by assumption) ?_) | (refine i_lt (by omega) ?_) | (refine i_le (by omega) ?_) | (refine i_cut (by omega) ?_) | (refine And.intro (by omega) ?_) | (refine And.intro trivial ?_) | (refine And.intro (by decide) ?_) | (refine And.intro (Nat.le_of_ble_eq_true rfl) ?_))
      refine loop_op Nat (fun j => ⟨[(1, .ptr 1 0 0), (3, .int .i64 (i : Int)), (4, .int .i64 (j : Int))], [(1, some (.box [.sl 14 hs, .sl 6 au, .sl 2 ns, .sl 7 gs, .sl 1 ev, .sl 1 cs]))], 2⟩) (fun j => j ≤ z4.length ∧ ∀ k x, k < j → z4[k]? = some x → pinE hs ev x = true) (fun j => z4.length - j) 0 ⟨by omega, fun k x hk => by omega⟩ ?_ ?_
      · (refine le_auto (by rfl) ?_ ?_) <;> repeat' (first | (exact trivial) | (with_reducible rfl) | (exact (rfl : _ = true)) | (exact (rfl : _ = some _)) | (exact (rfl : _ = none)) | (refine And.intro ?_ ?_) | ((show (_ : Int) = _); omega) | ((fail_if_success (with_reducible (show _ = _))); (show _ = _)))
      · intro Q2 hQ2 j hx
        have hj : j ≤ z4.length := hx.1
        have hp := hx.2
        clear hx
        by_cases hjl : j < z4.length
        · have hjl2 : (j : Int) < (z4.length : Int) := by omega
          have gp : z4[j]? = some z4[j] := List.getElem?_eq_getElem hjl
          have hfp := qp.2 _ (List.getElem_mem hjl)
          generalize z4[j] = p at gp hfp
          obtain ⟨h, e, r, q, m4, w5, w6, w7, rfl, -, bh, -⟩ := fits_Seal hfp
          have hb2 : pinT hs ev h e r q = false → au.all (pinsA hs ev) = false := fun hx => hbad j _ gp hx
          have hg2 : pinT hs ev h e r q = true → ∀ k x, k < j + 1 → z4[k]? = some x → pinE hs ev x = true := fun hx k x hk hkx => by
            by_cases hkj : k = j
            · subst hkj
              rw [gp] at hkx
              injection hkx with hkx
              subst hkx
              exact hx
            · exact hp k x (by omega) hkx
          clear hp hbad
          have c1 := c_l29Evil hs au ns gs ev cs h qe
          have c2 := c_l01In h 0 ((hs.length : Int) - 1)
          have e2 : IntKind.i64.wrap ((hs.length : Int) - 1) = (hs.length : Int) - 1 := wrap_i64 (by omega) (by omega)
          cases hev : evilT ev h with
          | true =>
            rw [hev] at c1
            repeat ((try conv => whnf); first | (refine i_at ga ?_) | (refine i_at gp ?_) | (refine c_call ([]) (c1) (by ((repeat' (first | (exact trivial) | (exact rfl) | (refine And.intro ?_ ?_))); first | done | fail)) (by ((repeat' (first | (exact trivial) | (exact rfl) | (refine And.intro ?_ ?_))); first | done | fail)) (by decide) (by rfl) (by first | exact .inl rfl | (refine .inr ⟨?_, ?_⟩ <;> simp [own2, own1, own0, ownE])) ?_) | (refine And.intro rfl ?_) | (refine w_addn (by omega) ?_) | (refine w_subn (by omega) ?_) | (refine w_add (by omega) ?_) | (refine w_sub (by omega) ?_) | (refine w_any (by omega) ?_) | (refine Exists.intro _ (And.intro rfl ?_)) | (with_reducible (refine cb_t rfl ?_)) | (with_reducible (refine cb_f rfl ?_)) | (refine cb_dt (by omega) ?_) | (refine cb_df (by omega) ?_) | (refine cb_nt (by omega) ?_) | (refine cb_nf (by omega) ?_) | (refine cb_t (by assumption) ?_) | (refine cb_f (by assumption) ?_) | (refine i_lt (by omega) ?_) | (refine i_le (by omega) ?_) | (refine i_cut (by omega) ?_) | (refine And.intro (by omega) ?_) | (refine And.intro trivial ?_) | (refine And.intro (by decide) ?_) | (refine And.intro (Nat.le_of_ble_eq_true rfl) ?_))
            refine ⟨j + 1, ⟨by omega, hg2 (by unfold pinT; rw [hev]; rfl)⟩, by omega, ?_⟩
            (refine le_auto (by rfl) ?_ ?_) <;> repeat' (first | (exact trivial) | (with_reducible rfl) | (exact (rfl : _ = true)) | (exact (rfl : _ = some _)) | (exact (rfl : _ = none)) | (refine And.intro ?_ ?_) | ((show (_ : Int) = _); omega) | ((fail_if_success (with_reducible (show _ = _))); (show _ = _)))
          | false =>
            rw [hev] at c1
            have hpt : pinT hs ev h e r q = (inB h 0 ((hs.length : Int) - 1) && (match hs[h.toNat]? with
                | some ho => (match ho[5]? with
                  | some (T.sl _ ss) => inB e 1 (ss.length : Int) && headAt ss e [.int .i64 h, .int .i64 e, .str r, .str q]
                  | _ => false)
                | none => false)) := by unfold pinT; rw [hev]; rfl
            rw [hpt] at hb2 hg2
            clear hpt
            by_cases hin : 0 ≤ h ∧ h ≤ (hs.length : Int) - 1
            · rw [inB_yes hin] at c2 hb2 hg2
              obtain ⟨n, hn0⟩ : ∃ n : Nat, h = n := ⟨h.toNat, by omega⟩
              subst hn0
              have hn : n < hs.length := by omega
              have gh : hs[n]? = some hs[n] := List.getElem?_eq_getElem hn
              have hfh := qh.2 _ (List.getElem_mem hn)
              generalize hs[n] = ho at gh hfh
              rw [Int.toNat_natCast, gh] at hb2 hg2
              obtain ⟨a0, a1, a2, a3, a4, a5, a6, a7, a8, a9, a10, a11, a12, a13, rfl, -, -, -, -, -, qs, -⟩ := fits_House hfh
              have hb3 : (inB e 1 (a5.length : Int) && headAt a5 e [.int .i64 (n : Int), .int .i64 e, .str r, .str q]) = false → au.all (pinsA hs ev) = false := hb2
              have hg3 : (inB e 1 (a5.length : Int) && headAt a5 e [.int .i64 (n : Int), .int .i64 e, .str r, .str q]) = true → ∀ k x, k < j + 1 → z4[k]? = some x → pinE hs ev x = true := hg2
              clear hb2 hg2
              have qn5 := qs.1
              have c3 := c_l01In e 1 (a5.length : Int)
              by_cases hin2 : 1 ≤ e ∧ e ≤ (a5.length : Int)
              · obtain ⟨m, rfl⟩ : ∃ m : Nat, e = m := ⟨e.toNat, by omega⟩
                have hm : m - 1 < a5.length := by omega
                have gs2 : a5[m - 1]? = some a5[m - 1] := List.getElem?_eq_getElem hm
                have hfs := qs.2 _ (List.getElem_mem hm)
                generalize a5[m - 1] = s at gs2 hfs
                obtain ⟨y0, y1, y2, y3, y4, y5, y6, y7, rfl, -⟩ := fits_Seal hfs
                have hhd : headAt a5 (m : Int) [.int .i64 (n : Int), .int .i64 (m : Int), .str r, .str q] = eqC [.int .i64 y0, .int .i64 y1, .str y2, .str y3] [.int .i64 (n : Int), .int .i64 (m : Int), .str r, .str q] := by
                  unfold headAt
                  rw [show ((m : Int) - 1).toNat = m - 1 by omega, gs2]; rfl
                rw [inB_yes hin2, hhd, Bool.true_and] at hb3 hg3
                rw [inB_yes hin2] at c3
                have h1m : 1 ≤ m := by omega
                cases hq : eqC [.int .i64 y0, .int .i64 y1, .str y2, .str y3] [.int .i64 (n : Int), .int .i64 (m : Int), .str r, .str q] with
                | true =>
                  repeat ((try conv => whnf); first | (refine i_at ga ?_) | (refine i_at gp ?_) | (refine c_call ([]) (c1) (by ((repeat' (first | (exact trivial) | (exact rfl) | (refine And.intro ?_ ?_))); first | done | fail)) (by ((repeat' (first | (exact trivial) | (exact rfl) | (refine And.intro ?_ ?_))); first | done | fail)) (by decide) (by rfl) (by first | exact .inl rfl | (refine .inr ⟨?_, ?_⟩ <;> simp [own2, own1, own0, ownE])) ?_) | (refine Exists.intro _ (And.intro e2.symm ?_)) | (refine c_call ([]) (c2) (by ((repeat' (first | (exact trivial) | (exact rfl) | (refine And.intro ?_ ?_))); first | done | fail)) (by ((repeat' (first | (exact trivial) | (exact rfl) | (refine And.intro ?_ ?_))); first | done | fail)) (by decide) (by rfl) (by first | exact .inl rfl | (refine .inr ⟨?_, ?_⟩ <;> simp [own2, own1, own0, ownE])) ?_) | (refine i_at gh ?_) | (refine c_call ([]) (c3) (by ((repeat' (first | (exact trivial) | (exact rfl) | (refine And.intro ?_ ?_))); first | done | fail)) (by ((repeat' (first | (exact trivial) | (exact rfl) | (refine And.intro ?_ ?_))); first | done | fail)) (by decide) (by rfl) (by first | exact .inl rfl | (refine .inr ⟨?_, ?_⟩ <;> simp [own2, own1, own0, ownE])) ?_) | (refine i_at gs2 ?_) | (refine cb_f (congrArg (!·) hq) ?_) | (refine And.intro rfl ?_) | (refine w_addn (by omega) ?_) | (refine w_subn (by omega) ?_) | (refine w_add (by omega) ?_) | (refine w_sub (by omega) ?_) | (refine w_any (by omega) ?_) | (refine Exists.intro _ (And.intro rfl ?_)) | (with_reducible (refine cb_t rfl ?_)) | (with_reducible (refine cb_f rfl ?_)) | (refine cb_dt (by omega) ?_) | (refine cb_df (by omega) ?_) | (refine cb_nt (by omega) ?_) | (refine cb_nf (by omega) ?_) | (refine cb_t (by assumption) ?_) | (refine cb_f (by assumption) ?_) | (refine i_lt (by omega) ?_) | (refine i_le (by omega) ?_) | (refine i_cut (by omega) ?_) | (refine And.intro (by omega) ?_) | (refine And.intro trivial ?_) | (refine And.intro (by decide) ?_) | (refine And.intro (Nat.le_of_ble_eq_true rfl) ?_))
                  refine ⟨j + 1, ⟨by omega, hg3 hq⟩, by omega, ?_⟩
                  (refine le_auto (by rfl) ?_ ?_) <;> repeat' (first | (exact trivial) | (with_reducible rfl) | (exact (rfl : _ = true)) | (exact (rfl : _ = some _)) | (exact (rfl : _ = none)) | (refine And.intro ?_ ?_) | ((show (_ : Int) = _); omega) | ((fail_if_success (with_reducible (show _ = _))); (show _ = _)))
                | false =>
                  repeat ((try conv => whnf); first | (refine i_at ga ?_) | (refine i_at gp ?_) | (refine c_call ([]) (c1) (by ((repeat' (first | (exact trivial) | (exact rfl) | (refine And.intro ?_ ?_))); first | done | fail)) (by ((repeat' (first | (exact trivial) | (exact rfl) | (refine And.intro ?_ ?_))); first | done | fail)) (by decide) (by rfl) (by first | exact .inl rfl | (refine .inr ⟨?_, ?_⟩ <;> simp [own2, own1, own0, ownE])) ?_) | (refine Exists.intro _ (And.intro e2.symm ?_)) | (refine c_call ([]) (c2) (by ((repeat' (first | (exact trivial) | (exact rfl) | (refine And.intro ?_ ?_))); first | done | fail)) (by ((repeat' (first | (exact trivial) | (exact rfl) | (refine And.intro ?_ ?_))); first | done | fail)) (by decide) (by rfl) (by first | exact .inl rfl | (refine .inr ⟨?_, ?_⟩ <;> simp [own2, own1, own0, ownE])) ?_) | (refine i_at gh ?_) | (refine c_call ([]) (c3) (by ((repeat' (first | (exact trivial) | (exact rfl) | (refine And.intro ?_ ?_))); first | done | fail)) (by ((repeat' (first | (exact trivial) | (exact rfl) | (refine And.intro ?_ ?_))); first | done | fail)) (by decide) (by rfl) (by first | exact .inl rfl | (refine .inr ⟨?_, ?_⟩ <;> simp [own2, own1, own0, ownE])) ?_) | (refine i_at gs2 ?_) | (refine cb_t (congrArg (!·) hq) ?_) | (refine And.intro rfl ?_) | (refine w_addn (by omega) ?_) | (refine w_subn (by omega) ?_) | (refine w_add (by omega) ?_) | (refine w_sub (by omega) ?_) | (refine w_any (by omega) ?_) | (refine Exists.intro _ (And.intro rfl ?_)) | (with_reducible (refine cb_t rfl ?_)) | (with_reducible (refine cb_f rfl ?_)) | (refine cb_dt (by omega) ?_) | (refine cb_df (by omega) ?_) | (refine cb_nt (by omega) ?_) | (refine cb_nf (by omega) ?_) | (refine cb_t (by assumption) ?_) | (refine cb_f (by assumption) ?_) | (refine i_lt (by omega) ?_) | (refine i_le (by omega) ?_) | (refine i_cut (by omega) ?_) | (refine And.intro (by omega) ?_) | (refine And.intro trivial ?_) | (refine And.intro (by decide) ?_) | (refine And.intro (Nat.le_of_ble_eq_true rfl) ?_))
                  refine hQ2 _ _ (hQ1 _ _ ?_)
                  (try conv => whnf)
                  rw [hb3 hq]
                  (refine ans_auto (by rfl) ?_ ?_ (by rfl)) <;> repeat' (first | (exact trivial) | (with_reducible rfl) | (exact (rfl : _ = true)) | (exact (rfl : _ = some _)) | (exact (rfl : _ = none)) | (refine And.intro ?_ ?_) | ((show (_ : Int) = _); omega) | ((fail_if_success (with_reducible (show _ = _))); (show _ = _)))
              · rw [inB_no hin2] at hb3 c3
                repeat ((try conv => whnf); first | (refine i_at ga ?_) | (refine i_at gp ?_) | (refine c_call ([]) (c1) (by ((repeat' (first | (exact trivial) | (exact rfl) | (refine And.intro ?_ ?_))); first | done | fail)) (by ((repeat' (first | (exact trivial) | (exact rfl) | (refine And.intro ?_ ?_))); first | done | fail)) (by decide) (by rfl) (by first | exact .inl rfl | (refine .inr ⟨?_, ?_⟩ <;> simp [own2, own1, own0, ownE])) ?_) | (refine Exists.intro _ (And.intro e2.symm ?_)) | (refine c_call ([]) (c2) (by ((repeat' (first | (exact trivial) | (exact rfl) | (refine And.intro ?_ ?_))); first | done | fail)) (by ((repeat' (first | (exact trivial) | (exact rfl) | (refine And.intro ?_ ?_))); first | done | fail)) (by decide) (by rfl) (by first | exact .inl rfl | (refine .inr ⟨?_, ?_⟩ <;> simp [own2, own1, own0, ownE])) ?_) | (refine i_at gh ?_) | (refine c_call ([]) (c3) (by ((repeat' (first | (exact trivial) | (exact rfl) | (refine And.intro ?_ ?_))); first | done | fail)) (by ((repeat' (first | (exact trivial) | (exact rfl) | (refine And.intro ?_ ?_))); first | done | fail)) (by decide) (by rfl) (by first | exact .inl rfl | (refine .inr ⟨?_, ?_⟩ <;> simp [own2, own1, own0, ownE])) ?_) | (refine And.intro rfl ?_) | (refine w_addn (by omega) ?_) | (refine w_subn (by omega) ?_) | (refine w_add (by omega) ?_) | (refine w_sub (by omega) ?_) | (refine w_any (by omega) ?_) | (refine Exists.intro _ (And.intro rfl ?_)) | (with_reducible (refine cb_t rfl ?_)) | (with_reducible (refine cb_f rfl ?_)) | (refine cb_dt (by omega) ?_) | (refine cb_df (by omega) ?_) | (refine cb_nt (by omega) ?_) | (refine cb_nf (by omega) ?_) | (refine cb_t (by assumption) ?_) | (refine cb_f (by assumption) ?_) | (refine i_lt (by omega) ?_) | (refine i_le (by omega) ?_) | (refine i_cut (by omega) ?_) | (refine And.intro (by omega) ?_) | (refine And.intro trivial ?_) | (refine And.intro (by decide) ?_) | (refine And.intro (Nat.le_of_ble_eq_true rfl) ?_))
                refine hQ2 _ _ (hQ1 _ _ ?_)
                (try conv => whnf)
                rw [hb3 rfl]
                (refine ans_auto (by rfl) ?_ ?_ (by rfl)) <;> repeat' (first | (exact trivial) | (with_reducible rfl) | (exact (rfl : _ = true)) | (exact (rfl : _ = some _)) | (exact (rfl : _ = none)) | (refine And.intro ?_ ?_) | ((show (_ : Int) = _); omega) | ((fail_if_success (with_reducible (show _ = _))); (show _ = _)))
            · rw [inB_no hin] at c2 hb2
              repeat ((try conv => whnf); first | (refine i_at ga ?_) | (refine i_at gp ?_) | (refine c_call ([]) (c1) (by ((repeat' (first | (exact trivial) | (exact rfl) | (refine And.intro ?_ ?_))); first | done | fail)) (by ((repeat' (first | (exact trivial) | (exact rfl) | (refine And.intro ?_ ?_))); first | done | fail)) (by decide) (by rfl) (by first | exact .inl rfl | (refine .inr ⟨?_, ?_⟩ <;> simp [own2, own1, own0, ownE])) ?_) | (refine Exists.intro _ (And.intro e2.symm ?_)) | (refine c_call ([]) (c2) (by ((repeat' (first | (exact trivial) | (exact rfl) | (refine And.intro ?_ ?_))); first | done | fail)) (by ((repeat' (first | (exact trivial) | (exact rfl) | (refine And.intro ?_ ?_))); first | done | fail)) (by decide) (by rfl) (by first | exact .inl rfl | (refine .inr ⟨?_, ?_⟩ <;> simp [own2, own1, own0, ownE])) ?_) | (refine And.intro rfl ?_) | (refine w_addn (by omega) ?_) | (refine w_subn (by omega) ?_) | (refine w_add (by omega) ?_) | (refine w_sub (by omega) ?_) | (refine w_any (by omega) ?_) | (refine Exists.intro _ (And.intro rfl ?_)) | (with_reducible (refine cb_t rfl ?_)) | (with_reducible (refine cb_f rfl ?_)) | (refine cb_dt (by omega) ?_) | (refine cb_df (by omega) ?_) | (refine cb_nt (by omega) ?_) | (refine cb_nf (by omega) ?_) | (refine cb_t (by assumption) ?_) | (refine cb_f (by assumption) ?_) | (refine i_lt (by omega) ?_) | (refine i_le (by omega) ?_) | (refine i_cut (by omega) ?_) | (refine And.intro (by omega) ?_) | (refine And.intro trivial ?_) | (refine And.intro (by decide) ?_) | (refine And.intro (Nat.le_of_ble_eq_true rfl) ?_))
              refine hQ2 _ _ (hQ1 _ _ ?_)
              (try conv => whnf)
              rw [hb2 rfl]
              (refine ans_auto (by rfl) ?_ ?_ (by rfl)) <;> repeat' (first | (exact trivial) | (with_reducible rfl) | (exact (rfl : _ = true)) | (exact (rfl : _ = some _)) | (exact (rfl : _ = none)) | (refine And.intro ?_ ?_) | ((show (_ : Int) = _); omega) | ((fail_if_success (with_reducible (show _ = _))); (show _ = _)))
        · have hje : j = z4.length := by omega
          subst hje
          repeat ((try conv => whnf); first | (refine i_at ga ?_) | (refine And.intro rfl ?_) | (refine w_addn (by omega) ?_) | (refine w_subn (by omega) ?_) | (refine w_add (by omega) ?_) | (refine w_sub (by omega) ?_) | (refine w_any (by omega) ?_) | (refine Exists.intro _ (And.intro rfl ?_)) | (with_reducible (refine cb_t rfl ?_)) | (with_reducible (refine cb_f rfl ?_)) | (refine cb_dt (by omega) ?_) | (refine cb_df (by omega) ?_) | (refine cb_nt (by omega) ?_) | (refine cb_nf (by omega) ?_) | (refine cb_t (by assumption) ?_) | (refine cb_f (by assumption) ?_) | (refine i_lt (by omega) ?_) | (refine i_le (by omega) ?_) | (refine i_cut (by omega) ?_) | (refine And.intro (by omega) ?_) | (refine And.intro trivial ?_) | (refine And.intro (by decide) ?_) | (refine And.intro (Nat.le_of_ble_eq_true rfl) ?_))
          refine hQ2 _ _ ?_
          repeat ((try conv => whnf); first | (refine And.intro rfl ?_) | (refine w_addn (by omega) ?_) | (refine w_subn (by omega) ?_) | (refine w_add (by omega) ?_) | (refine w_sub (by omega) ?_) | (refine w_any (by omega) ?_) | (refine Exists.intro _ (And.intro rfl ?_)) | (with_reducible (refine cb_t rfl ?_)) | (with_reducible (refine cb_f rfl ?_)) | (refine cb_dt (by omega) ?_) | (refine cb_df (by omega) ?_) | (refine cb_nt (by omega) ?_) | (refine cb_nf (by omega) ?_) | (refine cb_t (by assumption) ?_) | (refine cb_f (by assumption) ?_) | (refine i_lt (by omega) ?_) | (refine i_le (by omega) ?_) | (refine i_cut (by omega) ?_) | (refine And.intro (by omega) ?_) | (refine And.intro trivial ?_) | (refine And.intro (by decide) ?_) | (refine And.intro (Nat.le_of_ble_eq_true rfl) ?_))
          refine ⟨i + 1, ⟨by omega, hgood fun k x hkx => hp k x (List.getElem?_eq_some_iff.1 hkx).1 hkx⟩, by omega, ?_⟩
          (refine le_auto (by rfl) ?_ ?_) <;> repeat' (first | (exact trivial) | (with_reducible rfl) | (exact (rfl : _ = true)) | (exact (rfl : _ = some _)) | (exact (rfl : _ = none)) | (refine And.intro ?_ ?_) | ((show (_ : Int) = _); omega) | ((fail_if_success (with_reducible (show _ = _))); (show _ = _)))
    · have hie : i = au.length := by omega
      subst hie
      repeat ((try conv => whnf); first | (refine And.intro rfl ?_) | (refine w_addn (by omega) ?_) | (refine w_subn (by omega) ?_) | (refine w_add (by omega) ?_) | (refine w_sub (by omega) ?_) | (refine w_any (by omega) ?_) | (refine Exists.intro _ (And.intro rfl ?_)) | (with_reducible (refine cb_t rfl ?_)) | (with_reducible (refine cb_f rfl ?_)) | (refine cb_dt (by omega) ?_) | (refine cb_df (by omega) ?_) | (refine cb_nt (by omega) ?_) | (refine cb_nf (by omega) ?_) | (refine cb_t (by assumption) ?_) | (refine cb_f (by assumption) ?_) | (refine i_lt (by omega) ?_) | (refine i_le (by omega) ?_) | (refine i_cut (by omega) ?_) | (refine And.intro (by omega) ?_) | (refine And.intro trivial ?_) | (refine And.intro (by decide) ?_) | (refine And.intro (Nat.le_of_ble_eq_true rfl) ?_))
      refine hQ1 _ _ ?_
      repeat ((try conv => whnf); first | (refine And.intro rfl ?_) | (refine w_addn (by omega) ?_) | (refine w_subn (by omega) ?_) | (refine w_add (by omega) ?_) | (refine w_sub (by omega) ?_) | (refine w_any (by omega) ?_) | (refine Exists.intro _ (And.intro rfl ?_)) | (with_reducible (refine cb_t rfl ?_)) | (with_reducible (refine cb_f rfl ?_)) | (refine cb_dt (by omega) ?_) | (refine cb_df (by omega) ?_) | (refine cb_nt (by omega) ?_) | (refine cb_nf (by omega) ?_) | (refine cb_t (by assumption) ?_) | (refine cb_f (by assumption) ?_) | (refine i_lt (by omega) ?_) | (refine i_le (by omega) ?_) | (refine i_cut (by omega) ?_) | (refine And.intro (by omega) ?_) | (refine And.intro trivial ?_) | (refine And.intro (by decide) ?_) | (refine And.intro (Nat.le_of_ble_eq_true rfl) ?_))
      rw [all_good fun k x hkx => hp k x (List.getElem?_eq_some_iff.1 hkx).1 hkx]
      (refine ans_auto (by rfl) ?_ ?_ (by rfl)) <;> repeat' (first | (exact trivial) | (with_reducible rfl) | (exact (rfl : _ = true)) | (exact (rfl : _ = some _)) | (exact (rfl : _ = none)) | (refine And.intro ?_ ?_) | ((show (_ : Int) = _); omega) | ((fail_if_success (with_reducible (show _ = _))); (show _ = _)))
end Go.Proofs.Ytigfpjnjjndenaa
