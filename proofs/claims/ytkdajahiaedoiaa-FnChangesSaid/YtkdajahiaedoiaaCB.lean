/- Functions by content: changes drawn. -/
import Derived.Test.YtkdajahiaedoiaaV21
import Derived.Test.YtkdajahiaedoiaaCA
import Derived.Test.YtkdajahiaedoiaaFL
namespace Go.Proofs.Ytkdajahiaedoiaa
open Go.RowKit Pl
set_option linter.unusedVariables false
set_option linter.unusedSimpArgs false
attribute [local irreducible] CondB CallP LoopW AnsP LeP

theorem chg_agree (t : Bs) : readChangeI t = readChangeS t := by
  rcases hA : numOf t 0 false with ⟨a, p1, b1⟩
  rcases hN : shortOf t p1 b1 with ⟨n, p2, b2⟩
  rcases hV : shortOf t p2 b2 with ⟨v, p3, b3⟩
  simp only [readChangeI, hA, hN, hV]
  simp only [readChangeS, numS_good, hA]
  cases b1
  · simp only [shortS_good, hN]
    cases b2
    · simp only [shortS_good, hV]
      cases b3
      · obtain ⟨_, _, e1, l1⟩ := numOf_enc hA
        obtain ⟨_, _, e2, l2⟩ := shortOf_enc hN
        obtain ⟨_, _, e3, l3⟩ := shortOf_enc hV
        have et : t = changeText a n v ++ t.drop p3 := by
          have : t = t.drop 0 := rfl
          conv => lhs; rw [this, e1, e2, e3]
          simp [changeText]
        have el : p3 = (changeText a n v).length := by simp [changeText]; omega
        by_cases hd : t.drop p3 = []
        · have h1 : p3 = t.length := by rw [hd, List.append_nil] at et; rw [el, ← et]
          have h2 : changeText a n v = t := by rw [hd, List.append_nil] at et; exact et.symm
          simp [doneB, h1, h2]
        · have h1 : p3 ≠ t.length := fun c => hd (List.drop_eq_nil_of_le (by omega))
          have h2 : changeText a n v ≠ t := fun c => h1 (by rw [el, c])
          simp [doneB, h1, h2]
      · simp [doneB]
    · have h3 := shortOf_bad t p2
      rw [hV] at h3
      simp only at h3
      subst h3
      simp [doneB, shortS]
  · have h2 := shortOf_bad t p1
    rw [hN] at h2
    simp only at h2
    subst h2
    have h3 := shortOf_bad t p2
    rw [hV] at h3
    simp only at h3
    subst h3
    simp [doneB, shortS]

theorem chg_text {t : Bs} {a : Nat} {n v : Bs} (h : readChangeI t = some (a, n, v)) : chText ((a : Int), n, v) = t := by
  rw [chg_agree] at h
  rcases hA : numS t 0 false with ⟨a', p1, b1⟩
  rcases hN : shortS t p1 b1 with ⟨n', p2, b2⟩
  rcases hV : shortS t p2 b2 with ⟨v', p3, b3⟩
  simp only [readChangeS, hA, hN, hV] at h
  split at h
  · rename_i hc
    injection h with h
    simp only [Prod.mk.injEq] at h
    obtain ⟨rfl, rfl, rfl⟩ := h
    rw [chText, hc.2.1]; exact hc.2.2
  · cases h
theorem chg_fit {t : Bs} {a : Nat} {n v : Bs} (h : readChangeI t = some (a, n, v)) : ChFit ((a : Int), n, v) := by
  rw [chg_agree] at h
  rcases hA : numS t 0 false with ⟨a', p1, b1⟩
  rcases hN : shortS t p1 b1 with ⟨n', p2, b2⟩
  rcases hV : shortS t p2 b2 with ⟨v', p3, b3⟩
  simp only [readChangeS, hA, hN, hV] at h
  split at h
  · rename_i hc
    injection h with h
    simp only [Prod.mk.injEq] at h
    obtain ⟨rfl, rfl, rfl⟩ := h
    have ho := hc.2.1
    unfold changeOk at ho
    simp only [Bool.and_eq_true, Bool.or_eq_true, decide_eq_true_eq] at ho
    have h1 := nameOk_len ho.1.2
    refine ⟨by show (n'.length : Int) ≤ _; omega, ?_⟩
    show (v'.length : Int) ≤ _
    rcases ho.2 with h2 | h2
    · cases v' with
      | nil => simp
      | cons _ _ => cases h2
    · have := valueOk_len h2; omega
  · cases h
theorem chg_read {a : Nat} {n v : Bs} (h : changeOk (a : Int) n v = true) : readChangeI (changeText (a : Int) n v) = some (a, n, v) := by
  have hb : (a : Int) ≤ 99 ∧ n.length ≤ 12 ∧ v.length ≤ 12 := by
    unfold changeOk at h
    simp only [Bool.and_eq_true, Bool.or_eq_true, decide_eq_true_eq] at h
    refine ⟨h.1.1.2, nameOk_len h.1.2, ?_⟩
    rcases h.2 with h | h
    · cases v with
      | nil => simp
      | cons _ _ => cases h
    · exact valueOk_len h
  have h0 : (changeText (a : Int) n v).drop 0 = varText a ++ (shortText n ++ shortText v) := by simp [changeText]
  have hA := numOf_dec (by omega) h0 false
  have hd1 : (changeText (a : Int) n v).drop (0 + (varText a).length) = shortText n ++ shortText v := by rw [← List.drop_drop, h0, List.drop_left]
  have hN := shortOf_dec (by omega) hd1 false
  have hd2 : (changeText (a : Int) n v).drop (0 + (varText a).length + (shortText n).length) = shortText v ++ [] := by rw [← List.drop_drop, hd1, List.drop_left, List.append_nil]
  have hV := shortOf_dec (by omega) hd2 false
  simp only [readChangeI, hA, hN, hV, h]
  have hl : (changeText (a : Int) n v).length = (varText a).length + (shortText n).length + (shortText v).length := by simp [changeText, Nat.add_assoc]
  simp [doneB, hl]
/-- A drawn change: valid, of small parts. -/
def ChDraw (u : Ch) : Prop := changeOk u.1 u.2.1 u.2.2 = true ∧ ChGood u
theorem draw_fit {u : Ch} (h : ChGood u) : ChFit u := by
  obtain ⟨h1, h2⟩ := h
  have := nameOk_len h1
  refine ⟨by omega, ?_⟩
  rcases h2 with h2 | h2
  · rw [h2]; simp
  · have := valueOk_len h2; omega
set_option maxRecDepth 100000 in
set_option maxHeartbeats 1000000 in
theorem c_l16Change (c : Bs) (i : Nat) (h : Int) (hc : (c.length : Int) ≤ 1048576) (hi : i ≤ c.length) : ∃ (u : Ch) (i' : Nat) (h' : Int), ChDraw u ∧ i' ≤ c.length ∧ CT Try.prog 117 [curE c i h] [.ptr 1 0 0] (.agg (chL u)) [curE c i' h'] := by
  obtain ⟨x, i1, h1, hx, hi1, k1⟩ := c_l01Below c i h 30 hc hi (by omega)
  obtain ⟨n, i2, h2, hn, hi2, k2⟩ := c_l04Name c i1 h1 hc hi1
  obtain ⟨v, i3, h3, hv, hi3, k3⟩ := c_l09Value c i2 h2 hc hi2
  obtain ⟨b, i4, h4, hi4, k4⟩ := c_once c i3 h3 5 hc hi3 (by omega)
  cases b
  · refine ⟨(((1 + x : Nat) : Int), n, v), i4, h4, ⟨?_, hn.1, .inr hv.1⟩, hi4, ct_intro tt_ok 2 rfl Try.func117 rfl rfl rfl ?_⟩
    · unfold changeOk
      simp only [hn.1, hv.1, Bool.or_true, Bool.and_true, Bool.and_eq_true, decide_eq_true_eq]
      omega
    · repeat ((try conv => whnf); first | (refine c_call ([1]) (k1) (by ((repeat' (first | (exact trivial) | (exact rfl) | (decide) | (refine And.intro ?_ ?_))); first | done | fail)) (by ((repeat' (first | (exact trivial) | (exact rfl) | (decide) | (refine And.intro ?_ ?_))); first | done | fail)) (by decide) (by rfl) (by first | exact .inl rfl | (refine .inr ⟨?_, ?_⟩ <;> simp [own2, own1, own0, ownE])) ?_) | (refine c_call ([1]) (k2) (by ((repeat' (first | (exact trivial) | (exact rfl) | (decide) | (refine And.intro ?_ ?_))); first | done | fail)) (by ((repeat' (first | (exact trivial) | (exact rfl) | (decide) | (refine And.intro ?_ ?_))); first | done | fail)) (by decide) (by rfl) (by first | exact .inl rfl | (refine .inr ⟨?_, ?_⟩ <;> simp [own2, own1, own0, ownE])) ?_) | (refine c_call ([1]) (k3) (by ((repeat' (first | (exact trivial) | (exact rfl) | (decide) | (refine And.intro ?_ ?_))); first | done | fail)) (by ((repeat' (first | (exact trivial) | (exact rfl) | (decide) | (refine And.intro ?_ ?_))); first | done | fail)) (by decide) (by rfl) (by first | exact .inl rfl | (refine .inr ⟨?_, ?_⟩ <;> simp [own2, own1, own0, ownE])) ?_) | (refine c_call ([1]) (k4) (by ((repeat' (first | (exact trivial) | (exact rfl) | (decide) | (refine And.intro ?_ ?_))); first | done | fail)) (by ((repeat' (first | (exact trivial) | (exact rfl) | (decide) | (refine And.intro ?_ ?_))); first | done | fail)) (by decide) (by rfl) (by first | exact .inl rfl | (refine .inr ⟨?_, ?_⟩ <;> simp [own2, own1, own0, ownE])) ?_) | (refine w_addl (by omega) ?_) | (refine And.intro rfl ?_) | (refine w_addn (by omega) ?_) | (refine w_subn (by omega) ?_) | (refine w_add (by omega) ?_) | (refine w_sub (by omega) ?_) | (refine w_any (by omega) ?_) | (refine Exists.intro _ (And.intro rfl ?_)) | (with_reducible (refine cb_t rfl ?_)) | (with_reducible (refine cb_f rfl ?_)) | (refine cb_dt (by omega) ?_) | (refine cb_df (by omega) ?_) | (refine cb_nt (by omega) ?_) | (refine cb_nf (by omega) ?_) | (refine cb_t (by assumption) ?_) | (refine cb_f (by assumption) ?_) | (refine i_lt (by omega) ?_) | (refine i_le (by omega) ?_) | (refine i_cut (by omega) ?_) | (refine And.intro (by omega) ?_) | (refine And.intro trivial ?_) | (refine And.intro (by decide) ?_) | (refine And.intro (Nat.le_of_ble_eq_true rfl) ?_))
      (refine ans_auto (by rfl) ?_ ?_ (by rfl)) <;> (repeat' (first | (exact trivial) | (with_reducible rfl) | (exact (rfl : _ = true)) | (exact (rfl : _ = some _)) | (exact (rfl : _ = none)) | (refine And.intro ?_ ?_) | ((show (_ : Int) = _); omega) | ((fail_if_success (with_reducible (show _ = _))); (show _ = _))))
  · refine ⟨(((1 + x : Nat) : Int), n, []), i4, h4, ⟨?_, hn.1, .inl rfl⟩, hi4, ct_intro tt_ok 2 rfl Try.func117 rfl rfl rfl ?_⟩
    · unfold changeOk
      simp only [hn.1, List.isEmpty_nil, Bool.true_or, Bool.and_true, Bool.and_eq_true, decide_eq_true_eq]
      omega
    · repeat ((try conv => whnf); first | (refine c_call ([1]) (k1) (by ((repeat' (first | (exact trivial) | (exact rfl) | (decide) | (refine And.intro ?_ ?_))); first | done | fail)) (by ((repeat' (first | (exact trivial) | (exact rfl) | (decide) | (refine And.intro ?_ ?_))); first | done | fail)) (by decide) (by rfl) (by first | exact .inl rfl | (refine .inr ⟨?_, ?_⟩ <;> simp [own2, own1, own0, ownE])) ?_) | (refine c_call ([1]) (k2) (by ((repeat' (first | (exact trivial) | (exact rfl) | (decide) | (refine And.intro ?_ ?_))); first | done | fail)) (by ((repeat' (first | (exact trivial) | (exact rfl) | (decide) | (refine And.intro ?_ ?_))); first | done | fail)) (by decide) (by rfl) (by first | exact .inl rfl | (refine .inr ⟨?_, ?_⟩ <;> simp [own2, own1, own0, ownE])) ?_) | (refine c_call ([1]) (k3) (by ((repeat' (first | (exact trivial) | (exact rfl) | (decide) | (refine And.intro ?_ ?_))); first | done | fail)) (by ((repeat' (first | (exact trivial) | (exact rfl) | (decide) | (refine And.intro ?_ ?_))); first | done | fail)) (by decide) (by rfl) (by first | exact .inl rfl | (refine .inr ⟨?_, ?_⟩ <;> simp [own2, own1, own0, ownE])) ?_) | (refine c_call ([1]) (k4) (by ((repeat' (first | (exact trivial) | (exact rfl) | (decide) | (refine And.intro ?_ ?_))); first | done | fail)) (by ((repeat' (first | (exact trivial) | (exact rfl) | (decide) | (refine And.intro ?_ ?_))); first | done | fail)) (by decide) (by rfl) (by first | exact .inl rfl | (refine .inr ⟨?_, ?_⟩ <;> simp [own2, own1, own0, ownE])) ?_) | (refine w_addl (by omega) ?_) | (refine And.intro rfl ?_) | (refine w_addn (by omega) ?_) | (refine w_subn (by omega) ?_) | (refine w_add (by omega) ?_) | (refine w_sub (by omega) ?_) | (refine w_any (by omega) ?_) | (refine Exists.intro _ (And.intro rfl ?_)) | (with_reducible (refine cb_t rfl ?_)) | (with_reducible (refine cb_f rfl ?_)) | (refine cb_dt (by omega) ?_) | (refine cb_df (by omega) ?_) | (refine cb_nt (by omega) ?_) | (refine cb_nf (by omega) ?_) | (refine cb_t (by assumption) ?_) | (refine cb_f (by assumption) ?_) | (refine i_lt (by omega) ?_) | (refine i_le (by omega) ?_) | (refine i_cut (by omega) ?_) | (refine And.intro (by omega) ?_) | (refine And.intro trivial ?_) | (refine And.intro (by decide) ?_) | (refine And.intro (Nat.le_of_ble_eq_true rfl) ?_))
      (refine ans_auto (by rfl) ?_ ?_ (by rfl)) <;> (repeat' (first | (exact trivial) | (with_reducible rfl) | (exact (rfl : _ = true)) | (exact (rfl : _ = some _)) | (exact (rfl : _ = none)) | (refine And.intro ?_ ?_) | ((show (_ : Int) = _); omega) | ((fail_if_success (with_reducible (show _ = _))); (show _ = _))))
/-- How a list of changes is drawn. -/
inductive CR (c : Bs) : Nat → List Ch → Nat → Int → List Ch → Nat → Int → Prop
  | stop {k l i h x i' h'} : i' ≤ c.length → x ≤ k → CT Try.prog 87 [curE c i h] [.ptr 1 0 0, .int .i64 8] (.int .i64 ((x : Nat) : Int)) [curE c i' h'] → CR c k l i h l i' h'
  | step {k l i h x i1 h1 u i2 h2 l' i' h'} : x < 8 → k < x → i1 ≤ c.length → CT Try.prog 87 [curE c i h] [.ptr 1 0 0, .int .i64 8] (.int .i64 ((x : Nat) : Int)) [curE c i1 h1] →
      i2 ≤ c.length → CT Try.prog 117 [curE c i1 h1] [.ptr 1 0 0] (.agg (chL u)) [curE c i2 h2] → CR c (k + 1) (l ++ [u]) i2 h2 l' i' h' → CR c k l i h l' i' h'
theorem cr_all (c : Bs) (hc : (c.length : Int) ≤ 1048576) : ∀ (f k : Nat) (l : List Ch) (i : Nat) (h : Int), k + f = 8 → i ≤ c.length → (∀ u ∈ l, ChDraw u) → l.length = k →
    ∃ l' i' h', CR c k l i h l' i' h' ∧ (∀ u ∈ l', ChDraw u) ∧ l'.length ≤ 8 ∧ i' ≤ c.length
  | f, k, l, i, h, hf, hi, ho, hl => by
    obtain ⟨x, i1, h1, hx, hi1, cb⟩ := c_l01Below c i h 8 hc hi (by omega)
    by_cases hk : k < x
    · obtain ⟨u, i2, h2, hu, hi2, cu⟩ := c_l16Change c i1 h1 hc hi1
      cases f with
      | zero => omega
      | succ f =>
        obtain ⟨l', i', h', hd, hr, hl', hi'⟩ := cr_all c hc f (k + 1) (l ++ [u]) i2 h2 (by omega) hi2 (fun y hy => by
          rcases List.mem_append.1 hy with hy | hy
          · exact ho y hy
          · rw [List.mem_singleton.1 hy]; exact hu) (by simp [hl])
        exact ⟨l', i', h', .step hx hk hi1 cb hi2 cu hd, hr, hl', hi'⟩
    · exact ⟨l, i1, h1, .stop hi1 (by omega) cb, ho, by omega, hi1⟩
set_option maxRecDepth 100000 in
set_option maxHeartbeats 1000000 in
theorem c_l16List (c : Bs) (i : Nat) (h : Int) (hc : (c.length : Int) ≤ 1048576) (hi : i ≤ c.length) : ∃ (l : List Ch) (i' : Nat) (h' : Int), ((∀ u ∈ l, ChDraw u) ∧ l.length ≤ 8) ∧ i' ≤ c.length ∧ CT Try.prog 91 [curE c i h] [.ptr 1 0 0] (.ref 2) [curE c i' h', .row 3 (chE l)] := by
  obtain ⟨L, i', h', hd, hr, hL, hi'⟩ := cr_all c hc 8 0 [] i h rfl hi (fun x hx => by cases hx) rfl
  refine ⟨L, i', h', ⟨hr, hL⟩, hi', ct_intro tt_ok 2 rfl Try.func91 rfl rfl rfl ?_⟩
  repeat ((try conv => whnf); first | (refine And.intro rfl ?_) | (refine w_addn (by omega) ?_) | (refine w_subn (by omega) ?_) | (refine w_add (by omega) ?_) | (refine w_sub (by omega) ?_) | (refine w_any (by omega) ?_) | (refine Exists.intro _ (And.intro rfl ?_)) | (with_reducible (refine cb_t rfl ?_)) | (with_reducible (refine cb_f rfl ?_)) | (refine cb_dt (by omega) ?_) | (refine cb_df (by omega) ?_) | (refine cb_nt (by omega) ?_) | (refine cb_nf (by omega) ?_) | (refine cb_t (by assumption) ?_) | (refine cb_f (by assumption) ?_) | (refine i_lt (by omega) ?_) | (refine i_le (by omega) ?_) | (refine i_cut (by omega) ?_) | (refine And.intro (by omega) ?_) | (refine And.intro trivial ?_) | (refine And.intro (by decide) ?_) | (refine And.intro (Nat.le_of_ble_eq_true rfl) ?_))
  refine loop_of (Nat × List Ch × Nat × Int) (fun ⟨k, l, i, h⟩ => ⟨[(0, .ptr 1 0 0), (3, .ref 2), (4, .int .i64 (k : Int))], [(1, some (curE c i h)), (2, some (.row 3 (chE l)))], 3⟩) (fun ⟨k, l, i, h⟩ => CR c k l i h L i' h' ∧ k ≤ 8 ∧ l.length ≤ k) (fun ⟨k, l, i, h⟩ => 8 - k) (0, [], i, h) ⟨hd, by omega, by simp⟩ ?_ ?_
  · (refine le_auto (by rfl) ?_ ?_) <;> (repeat' (first | (exact trivial) | (with_reducible rfl) | (exact (rfl : _ = true)) | (exact (rfl : _ = some _)) | (exact (rfl : _ = none)) | (refine And.intro ?_ ?_) | ((show (_ : Int) = _); omega) | ((fail_if_success (with_reducible (show _ = _))); (show _ = _)))) <;> first | rfl | decide
  · rintro ⟨k, l, i, h⟩ ⟨hd, hk, hl⟩
    have hll := ch_len l
    cases hd with
    | stop hi1 hx cb =>
      repeat ((try conv => whnf); first | (refine c_call ([1]) (cb) (by ((repeat' (first | (exact trivial) | (exact rfl) | (decide) | (refine And.intro ?_ ?_))); first | done | fail)) (by ((repeat' (first | (exact trivial) | (exact rfl) | (decide) | (refine And.intro ?_ ?_))); first | done | fail)) (by decide) (by rfl) (by first | exact .inl rfl | (refine .inr ⟨?_, ?_⟩ <;> simp [own2, own1, own0, ownE])) ?_) | (refine And.intro rfl ?_) | (refine w_addn (by omega) ?_) | (refine w_subn (by omega) ?_) | (refine w_add (by omega) ?_) | (refine w_sub (by omega) ?_) | (refine w_any (by omega) ?_) | (refine Exists.intro _ (And.intro rfl ?_)) | (with_reducible (refine cb_t rfl ?_)) | (with_reducible (refine cb_f rfl ?_)) | (refine cb_dt (by omega) ?_) | (refine cb_df (by omega) ?_) | (refine cb_nt (by omega) ?_) | (refine cb_nf (by omega) ?_) | (refine cb_t (by assumption) ?_) | (refine cb_f (by assumption) ?_) | (refine i_lt (by omega) ?_) | (refine i_le (by omega) ?_) | (refine i_cut (by omega) ?_) | (refine And.intro (by omega) ?_) | (refine And.intro trivial ?_) | (refine And.intro (by decide) ?_) | (refine And.intro (Nat.le_of_ble_eq_true rfl) ?_))
      (refine ans_auto (by rfl) ?_ ?_ (by rfl)) <;> (repeat' (first | (exact trivial) | (with_reducible rfl) | (exact (rfl : _ = true)) | (exact (rfl : _ = some _)) | (exact (rfl : _ = none)) | (refine And.intro ?_ ?_) | ((show (_ : Int) = _); omega) | ((fail_if_success (with_reducible (show _ = _))); (show _ = _))))
    | @step _ _ _ _ x i1 h1 u i2 h2 _ _ _ hx hkx hi1 cb hi2 cu hd' =>
      repeat ((try conv => whnf); first | (refine c_call ([1]) (cb) (by ((repeat' (first | (exact trivial) | (exact rfl) | (decide) | (refine And.intro ?_ ?_))); first | done | fail)) (by ((repeat' (first | (exact trivial) | (exact rfl) | (decide) | (refine And.intro ?_ ?_))); first | done | fail)) (by decide) (by rfl) (by first | exact .inl rfl | (refine .inr ⟨?_, ?_⟩ <;> simp [own2, own1, own0, ownE])) ?_) | (refine c_call ([1]) (cu) (by ((repeat' (first | (exact trivial) | (exact rfl) | (decide) | (refine And.intro ?_ ?_))); first | done | fail)) (by ((repeat' (first | (exact trivial) | (exact rfl) | (decide) | (refine And.intro ?_ ?_))); first | done | fail)) (by decide) (by rfl) (by first | exact .inl rfl | (refine .inr ⟨?_, ?_⟩ <;> simp [own2, own1, own0, ownE])) ?_) | (refine And.intro (by simp [ch_len]; omega) ?_) | (refine And.intro rfl ?_) | (refine w_addn (by omega) ?_) | (refine w_subn (by omega) ?_) | (refine w_add (by omega) ?_) | (refine w_sub (by omega) ?_) | (refine w_any (by omega) ?_) | (refine Exists.intro _ (And.intro rfl ?_)) | (with_reducible (refine cb_t rfl ?_)) | (with_reducible (refine cb_f rfl ?_)) | (refine cb_dt (by omega) ?_) | (refine cb_df (by omega) ?_) | (refine cb_nt (by omega) ?_) | (refine cb_nf (by omega) ?_) | (refine cb_t (by assumption) ?_) | (refine cb_f (by assumption) ?_) | (refine i_lt (by omega) ?_) | (refine i_le (by omega) ?_) | (refine i_cut (by omega) ?_) | (refine And.intro (by omega) ?_) | (refine And.intro trivial ?_) | (refine And.intro (by decide) ?_) | (refine And.intro (Nat.le_of_ble_eq_true rfl) ?_))
      refine ⟨(k + 1, l ++ [u], i2, h2), ⟨hd', by omega, by simp; omega⟩, (by show 8 - (k + 1) < 8 - k; omega), ?_⟩
      (refine le_auto (by rfl) ?_ ?_) <;> (repeat' (first | (exact trivial) | (with_reducible rfl) | (exact (rfl : _ = true)) | (exact (rfl : _ = some _)) | (exact (rfl : _ = none)) | (refine And.intro ?_ ?_) | ((show (_ : Int) = _); omega) | ((fail_if_success (with_reducible (show _ = _))); (show _ = _))))
      simp [chE]
      rfl
set_option maxRecDepth 100000 in
set_option maxHeartbeats 1000000 in
theorem c_DrawChanges (c : Bs) (hc : (c.length : Int) ≤ 1048576) : ∃ (l : List Ch), ((∀ u ∈ l, ChDraw u) ∧ l.length ≤ 8) ∧ CT Try.prog 42 [] [.sl 1 (bytesE c)] (.ref 1) [.row 3 (chE l)] := by
  obtain ⟨h, c1⟩ := c_l01New c hc
  obtain ⟨l, i', h', hl, _, c2⟩ := c_l16List c 0 h hc (by omega)
  refine ⟨l, hl, ct_intro tt_ok 1 rfl Try.func42 rfl rfl rfl ?_⟩
  repeat ((try conv => whnf); first | (refine c_call ([]) (c1) (by ((repeat' (first | (exact trivial) | (exact rfl) | (refine And.intro ?_ ?_))); first | done | fail)) (by ((repeat' (first | (exact trivial) | (exact rfl) | (refine And.intro ?_ ?_))); first | done | fail)) (by decide) (by rfl) (by first | exact .inl rfl | (refine .inr ⟨?_, ?_⟩ <;> simp [own2, own1, own0, ownE])) ?_) | (refine c_call ([_]) (c2) (by ((repeat' (first | (exact trivial) | (exact rfl) | (decide) | (refine And.intro ?_ ?_))); first | done | fail)) (by ((repeat' (first | (exact trivial) | (exact rfl) | (decide) | (refine And.intro ?_ ?_))); first | done | fail)) (by decide) (by rfl) (by first | exact .inl rfl | (refine .inr ⟨?_, ?_⟩ <;> simp [own2, own1, own0, ownE])) ?_) | (refine And.intro rfl ?_) | (refine w_addn (by omega) ?_) | (refine w_subn (by omega) ?_) | (refine w_add (by omega) ?_) | (refine w_sub (by omega) ?_) | (refine w_any (by omega) ?_) | (refine Exists.intro _ (And.intro rfl ?_)) | (with_reducible (refine cb_t rfl ?_)) | (with_reducible (refine cb_f rfl ?_)) | (refine cb_dt (by omega) ?_) | (refine cb_df (by omega) ?_) | (refine cb_nt (by omega) ?_) | (refine cb_nf (by omega) ?_) | (refine cb_t (by assumption) ?_) | (refine cb_f (by assumption) ?_) | (refine i_lt (by omega) ?_) | (refine i_le (by omega) ?_) | (refine i_cut (by omega) ?_) | (refine And.intro (by omega) ?_) | (refine And.intro trivial ?_) | (refine And.intro (by decide) ?_) | (refine And.intro (Nat.le_of_ble_eq_true rfl) ?_))
  (refine ans_auto (by rfl) ?_ ?_ (by rfl)) <;> (repeat' (first | (exact trivial) | (with_reducible rfl) | (exact (rfl : _ = true)) | (exact (rfl : _ = some _)) | (exact (rfl : _ = none)) | (refine And.intro ?_ ?_) | ((show (_ : Int) = _); omega) | ((fail_if_success (with_reducible (show _ = _))); (show _ = _)))) <;> first | rfl | decide
def ints4 : List Int := [0, 99, 100, -1]
def strs3 : List Bs := [[], [65], [116, 104, 105, 114, 116, 101, 101, 110, 116, 104, 105, 114, 116]]
def strs2 : List Bs := [[97, 32, 98], [116, 104, 105, 114, 116, 101, 101, 110, 116, 104, 105, 114, 116]]
theorem strs3_len : ∀ s ∈ strs3, s.length ≤ 13 := by decide
theorem strs2_len : ∀ s ∈ strs2, s.length ≤ 13 := by decide
set_option maxRecDepth 100000 in
set_option maxHeartbeats 2000000 in
theorem c_l16Any (c : Bs) (i : Nat) (h : Int) (hc : (c.length : Int) ≤ 1048576) (hi : i ≤ c.length) : ∃ (u : Ch) (i' : Nat) (h' : Int), ChFit u ∧ i' ≤ c.length ∧ CT Try.prog 93 [curE c i h] [.ptr 1 0 0] (.agg (chL u)) [curE c i' h'] := by
  obtain ⟨u, i1, h1, hu, hi1, k1⟩ := c_l16Change c i h hc hi
  have hfu := draw_fit hu.2
  obtain ⟨a, n, v⟩ := u
  obtain ⟨x, i2, h2, hx, hi2, k2⟩ := c_l01Below c i1 h1 12 hc hi1 (by omega)
  by_cases x0 : x = 0
  · subst x0
    obtain ⟨a', i3, h3, _, hi3, k3⟩ := c_pickInt c i2 h2 ints4 hc hi2 (by decide)
    refine ⟨(a', n, v), i3, h3, hfu, hi3, ct_intro tt_ok 2 rfl Try.func93 rfl rfl rfl ?_⟩
    repeat ((try conv => whnf); first | (refine c_call ([1]) (k1) (by ((repeat' (first | (exact trivial) | (exact rfl) | (decide) | (refine And.intro ?_ ?_))); first | done | fail)) (by ((repeat' (first | (exact trivial) | (exact rfl) | (decide) | (refine And.intro ?_ ?_))); first | done | fail)) (by decide) (by rfl) (by first | exact .inl rfl | (refine .inr ⟨?_, ?_⟩ <;> simp [own2, own1, own0, ownE])) ?_) | (refine c_call ([1]) (k2) (by ((repeat' (first | (exact trivial) | (exact rfl) | (decide) | (refine And.intro ?_ ?_))); first | done | fail)) (by ((repeat' (first | (exact trivial) | (exact rfl) | (decide) | (refine And.intro ?_ ?_))); first | done | fail)) (by decide) (by rfl) (by first | exact .inl rfl | (refine .inr ⟨?_, ?_⟩ <;> simp [own2, own1, own0, ownE])) ?_) | (refine c_callF ([1]) (k3) (by ((repeat' (first | (exact trivial) | (exact rfl) | (decide) | (refine And.intro ?_ ?_))); first | done | fail)) (by ((repeat' (first | (exact trivial) | (exact rfl) | (decide) | (refine And.intro ?_ ?_))); first | done | fail)) (by decide) (by rfl) (by first | exact .inl rfl | (refine .inr ⟨?_, ?_⟩ <;> simp [own2, own1, own0, ownE])) ?_) | (refine And.intro rfl ?_) | (refine w_addn (by omega) ?_) | (refine w_subn (by omega) ?_) | (refine w_add (by omega) ?_) | (refine w_sub (by omega) ?_) | (refine w_any (by omega) ?_) | (refine Exists.intro _ (And.intro rfl ?_)) | (with_reducible (refine cb_t rfl ?_)) | (with_reducible (refine cb_f rfl ?_)) | (refine cb_dt (by omega) ?_) | (refine cb_df (by omega) ?_) | (refine cb_nt (by omega) ?_) | (refine cb_nf (by omega) ?_) | (refine cb_t (by assumption) ?_) | (refine cb_f (by assumption) ?_) | (refine i_lt (by omega) ?_) | (refine i_le (by omega) ?_) | (refine i_cut (by omega) ?_) | (refine And.intro (by omega) ?_) | (refine And.intro trivial ?_) | (refine And.intro (by decide) ?_) | (refine And.intro (Nat.le_of_ble_eq_true rfl) ?_))
    (refine ans_auto (by rfl) ?_ ?_ (by rfl)) <;> (repeat' (first | (exact trivial) | (with_reducible rfl) | (exact (rfl : _ = true)) | (exact (rfl : _ = some _)) | (exact (rfl : _ = none)) | (refine And.intro ?_ ?_) | ((show (_ : Int) = _); omega) | ((fail_if_success (with_reducible (show _ = _))); (show _ = _))))
  · by_cases x1 : x = 1
    · subst x1
      obtain ⟨n', i3, h3, hn', hi3, k3⟩ := c_l01Pick c i2 h2 strs3 hc hi2 (by decide)
      have := strs3_len n' hn'
      refine ⟨(a, n', v), i3, h3, ⟨by show (n'.length : Int) ≤ _; omega, hfu.2⟩, hi3, ct_intro tt_ok 2 rfl Try.func93 rfl rfl rfl ?_⟩
      repeat ((try conv => whnf); first | (refine c_call ([1]) (k1) (by ((repeat' (first | (exact trivial) | (exact rfl) | (decide) | (refine And.intro ?_ ?_))); first | done | fail)) (by ((repeat' (first | (exact trivial) | (exact rfl) | (decide) | (refine And.intro ?_ ?_))); first | done | fail)) (by decide) (by rfl) (by first | exact .inl rfl | (refine .inr ⟨?_, ?_⟩ <;> simp [own2, own1, own0, ownE])) ?_) | (refine c_call ([1]) (k2) (by ((repeat' (first | (exact trivial) | (exact rfl) | (decide) | (refine And.intro ?_ ?_))); first | done | fail)) (by ((repeat' (first | (exact trivial) | (exact rfl) | (decide) | (refine And.intro ?_ ?_))); first | done | fail)) (by decide) (by rfl) (by first | exact .inl rfl | (refine .inr ⟨?_, ?_⟩ <;> simp [own2, own1, own0, ownE])) ?_) | (refine c_callF ([1]) (k3) (by ((repeat' (first | (exact trivial) | (exact rfl) | (decide) | (refine And.intro ?_ ?_))); first | done | fail)) (by ((repeat' (first | (exact trivial) | (exact rfl) | (decide) | (refine And.intro ?_ ?_))); first | done | fail)) (by decide) (by rfl) (by first | exact .inl rfl | (refine .inr ⟨?_, ?_⟩ <;> simp [own2, own1, own0, ownE])) ?_) | (refine And.intro rfl ?_) | (refine w_addn (by omega) ?_) | (refine w_subn (by omega) ?_) | (refine w_add (by omega) ?_) | (refine w_sub (by omega) ?_) | (refine w_any (by omega) ?_) | (refine Exists.intro _ (And.intro rfl ?_)) | (with_reducible (refine cb_t rfl ?_)) | (with_reducible (refine cb_f rfl ?_)) | (refine cb_dt (by omega) ?_) | (refine cb_df (by omega) ?_) | (refine cb_nt (by omega) ?_) | (refine cb_nf (by omega) ?_) | (refine cb_t (by assumption) ?_) | (refine cb_f (by assumption) ?_) | (refine i_lt (by omega) ?_) | (refine i_le (by omega) ?_) | (refine i_cut (by omega) ?_) | (refine And.intro (by omega) ?_) | (refine And.intro trivial ?_) | (refine And.intro (by decide) ?_) | (refine And.intro (Nat.le_of_ble_eq_true rfl) ?_))
      (refine ans_auto (by rfl) ?_ ?_ (by rfl)) <;> (repeat' (first | (exact trivial) | (with_reducible rfl) | (exact (rfl : _ = true)) | (exact (rfl : _ = some _)) | (exact (rfl : _ = none)) | (refine And.intro ?_ ?_) | ((show (_ : Int) = _); omega) | ((fail_if_success (with_reducible (show _ = _))); (show _ = _))))
    · by_cases x2 : x = 2
      · subst x2
        obtain ⟨v', i3, h3, hv', hi3, k3⟩ := c_l01Pick c i2 h2 strs2 hc hi2 (by decide)
        have := strs2_len v' hv'
        refine ⟨(a, n, v'), i3, h3, ⟨hfu.1, by show (v'.length : Int) ≤ _; omega⟩, hi3, ct_intro tt_ok 2 rfl Try.func93 rfl rfl rfl ?_⟩
        repeat ((try conv => whnf); first | (refine c_call ([1]) (k1) (by ((repeat' (first | (exact trivial) | (exact rfl) | (decide) | (refine And.intro ?_ ?_))); first | done | fail)) (by ((repeat' (first | (exact trivial) | (exact rfl) | (decide) | (refine And.intro ?_ ?_))); first | done | fail)) (by decide) (by rfl) (by first | exact .inl rfl | (refine .inr ⟨?_, ?_⟩ <;> simp [own2, own1, own0, ownE])) ?_) | (refine c_call ([1]) (k2) (by ((repeat' (first | (exact trivial) | (exact rfl) | (decide) | (refine And.intro ?_ ?_))); first | done | fail)) (by ((repeat' (first | (exact trivial) | (exact rfl) | (decide) | (refine And.intro ?_ ?_))); first | done | fail)) (by decide) (by rfl) (by first | exact .inl rfl | (refine .inr ⟨?_, ?_⟩ <;> simp [own2, own1, own0, ownE])) ?_) | (refine c_callF ([1]) (k3) (by ((repeat' (first | (exact trivial) | (exact rfl) | (decide) | (refine And.intro ?_ ?_))); first | done | fail)) (by ((repeat' (first | (exact trivial) | (exact rfl) | (decide) | (refine And.intro ?_ ?_))); first | done | fail)) (by decide) (by rfl) (by first | exact .inl rfl | (refine .inr ⟨?_, ?_⟩ <;> simp [own2, own1, own0, ownE])) ?_) | (refine And.intro rfl ?_) | (refine w_addn (by omega) ?_) | (refine w_subn (by omega) ?_) | (refine w_add (by omega) ?_) | (refine w_sub (by omega) ?_) | (refine w_any (by omega) ?_) | (refine Exists.intro _ (And.intro rfl ?_)) | (with_reducible (refine cb_t rfl ?_)) | (with_reducible (refine cb_f rfl ?_)) | (refine cb_dt (by omega) ?_) | (refine cb_df (by omega) ?_) | (refine cb_nt (by omega) ?_) | (refine cb_nf (by omega) ?_) | (refine cb_t (by assumption) ?_) | (refine cb_f (by assumption) ?_) | (refine i_lt (by omega) ?_) | (refine i_le (by omega) ?_) | (refine i_cut (by omega) ?_) | (refine And.intro (by omega) ?_) | (refine And.intro trivial ?_) | (refine And.intro (by decide) ?_) | (refine And.intro (Nat.le_of_ble_eq_true rfl) ?_))
        (refine ans_auto (by rfl) ?_ ?_ (by rfl)) <;> (repeat' (first | (exact trivial) | (with_reducible rfl) | (exact (rfl : _ = true)) | (exact (rfl : _ = some _)) | (exact (rfl : _ = none)) | (refine And.intro ?_ ?_) | ((show (_ : Int) = _); omega) | ((fail_if_success (with_reducible (show _ = _))); (show _ = _))))
      · refine ⟨(a, n, v), i2, h2, hfu, hi2, ct_intro tt_ok 2 rfl Try.func93 rfl rfl rfl ?_⟩
        repeat ((try conv => whnf); first | (refine c_call ([1]) (k1) (by ((repeat' (first | (exact trivial) | (exact rfl) | (decide) | (refine And.intro ?_ ?_))); first | done | fail)) (by ((repeat' (first | (exact trivial) | (exact rfl) | (decide) | (refine And.intro ?_ ?_))); first | done | fail)) (by decide) (by rfl) (by first | exact .inl rfl | (refine .inr ⟨?_, ?_⟩ <;> simp [own2, own1, own0, ownE])) ?_) | (refine c_call ([1]) (k2) (by ((repeat' (first | (exact trivial) | (exact rfl) | (decide) | (refine And.intro ?_ ?_))); first | done | fail)) (by ((repeat' (first | (exact trivial) | (exact rfl) | (decide) | (refine And.intro ?_ ?_))); first | done | fail)) (by decide) (by rfl) (by first | exact .inl rfl | (refine .inr ⟨?_, ?_⟩ <;> simp [own2, own1, own0, ownE])) ?_) | (refine And.intro rfl ?_) | (refine w_addn (by omega) ?_) | (refine w_subn (by omega) ?_) | (refine w_add (by omega) ?_) | (refine w_sub (by omega) ?_) | (refine w_any (by omega) ?_) | (refine Exists.intro _ (And.intro rfl ?_)) | (with_reducible (refine cb_t rfl ?_)) | (with_reducible (refine cb_f rfl ?_)) | (refine cb_dt (by omega) ?_) | (refine cb_df (by omega) ?_) | (refine cb_nt (by omega) ?_) | (refine cb_nf (by omega) ?_) | (refine cb_t (by assumption) ?_) | (refine cb_f (by assumption) ?_) | (refine i_lt (by omega) ?_) | (refine i_le (by omega) ?_) | (refine i_cut (by omega) ?_) | (refine And.intro (by omega) ?_) | (refine And.intro trivial ?_) | (refine And.intro (by decide) ?_) | (refine And.intro (Nat.le_of_ble_eq_true rfl) ?_))
        (refine ans_auto (by rfl) ?_ ?_ (by rfl)) <;> (repeat' (first | (exact trivial) | (with_reducible rfl) | (exact (rfl : _ = true)) | (exact (rfl : _ = some _)) | (exact (rfl : _ = none)) | (refine And.intro ?_ ?_) | ((show (_ : Int) = _); omega) | ((fail_if_success (with_reducible (show _ = _))); (show _ = _))))
set_option maxRecDepth 100000 in
set_option maxHeartbeats 1000000 in
theorem c_DrawChangeOk (c : Bs) (hc : (c.length : Int) ≤ 1048576) : ∃ (u : Ch), ChFit u ∧ CT Try.prog 47 [] [.sl 1 (bytesE c)] (.agg (chL u)) [] := by
  obtain ⟨h, c1⟩ := c_l01New c hc
  obtain ⟨u, i', h', hu, _, c2⟩ := c_l16Any c 0 h hc (by omega)
  refine ⟨u, hu, ct_intro tt_ok 1 rfl Try.func47 rfl rfl rfl ?_⟩
  repeat ((try conv => whnf); first | (refine c_call ([]) (c1) (by ((repeat' (first | (exact trivial) | (exact rfl) | (refine And.intro ?_ ?_))); first | done | fail)) (by ((repeat' (first | (exact trivial) | (exact rfl) | (refine And.intro ?_ ?_))); first | done | fail)) (by decide) (by rfl) (by first | exact .inl rfl | (refine .inr ⟨?_, ?_⟩ <;> simp [own2, own1, own0, ownE])) ?_) | (refine c_call ([_]) (c2) (by ((repeat' (first | (exact trivial) | (exact rfl) | (decide) | (refine And.intro ?_ ?_))); first | done | fail)) (by ((repeat' (first | (exact trivial) | (exact rfl) | (decide) | (refine And.intro ?_ ?_))); first | done | fail)) (by decide) (by rfl) (by first | exact .inl rfl | (refine .inr ⟨?_, ?_⟩ <;> simp [own2, own1, own0, ownE])) ?_) | (refine And.intro rfl ?_) | (refine w_addn (by omega) ?_) | (refine w_subn (by omega) ?_) | (refine w_add (by omega) ?_) | (refine w_sub (by omega) ?_) | (refine w_any (by omega) ?_) | (refine Exists.intro _ (And.intro rfl ?_)) | (with_reducible (refine cb_t rfl ?_)) | (with_reducible (refine cb_f rfl ?_)) | (refine cb_dt (by omega) ?_) | (refine cb_df (by omega) ?_) | (refine cb_nt (by omega) ?_) | (refine cb_nf (by omega) ?_) | (refine cb_t (by assumption) ?_) | (refine cb_f (by assumption) ?_) | (refine i_lt (by omega) ?_) | (refine i_le (by omega) ?_) | (refine i_cut (by omega) ?_) | (refine And.intro (by omega) ?_) | (refine And.intro trivial ?_) | (refine And.intro (by decide) ?_) | (refine And.intro (Nat.le_of_ble_eq_true rfl) ?_))
  (refine ans_auto (by rfl) ?_ ?_ (by rfl)) <;> (repeat' (first | (exact trivial) | (with_reducible rfl) | (exact (rfl : _ = true)) | (exact (rfl : _ = some _)) | (exact (rfl : _ = none)) | (refine And.intro ?_ ?_) | ((show (_ : Int) = _); omega) | ((fail_if_success (with_reducible (show _ = _))); (show _ = _)))) <;> first | rfl | decide
theorem chText_len (u : Ch) : (chText u).length ≤ 100 := by
  unfold chText
  cases h : changeOk u.1 u.2.1 u.2.2
  · simp
  · unfold changeOk at h
    simp only [Bool.and_eq_true, Bool.or_eq_true, decide_eq_true_eq] at h
    have h1 := nameOk_len h.1.2
    have h2 : u.2.2.length ≤ 12 := by
      rcases h.2 with h | h
      · cases hv : u.2.2 with
        | nil => simp
        | cons _ _ => rw [hv] at h; cases h
      · exact valueOk_len h
    have h3 := varText_len (n := u.1.toNat) (by omega)
    have h4 := shortText_len (l := u.2.1) (by omega)
    have h5 := shortText_len (l := u.2.2) (by omega)
    simp only [cond_true, changeText, List.length_append]
    omega
set_option maxRecDepth 100000 in
set_option maxHeartbeats 1000000 in
theorem c_DrawReadChange (c : Bs) (hc : (c.length : Int) ≤ 1048576) : ∃ (t : Bs), t.length ≤ 1000 ∧ CT Try.prog 46 [] [.sl 1 (bytesE c)] (.str t) [] := by
  obtain ⟨h, c1⟩ := c_l01New c hc
  obtain ⟨x, i1, h1, hx, hi1, c2⟩ := c_l01Below c 0 h 3 hc (by omega) (by omega)
  obtain ⟨u, i2, h2, hu, hi2, c3⟩ := c_l16Any c i1 h1 hc hi1
  have c4 := c_sChangeText u hu
  have hl := chText_len u
  by_cases x0 : x = 0
  · subst x0
    obtain ⟨t, i3, h3, ht, hi3, c5⟩ := c_spoilt c i2 h2 (chText u) hc hi2 (by omega)
    refine ⟨t, by omega, ct_intro tt_ok 1 rfl Try.func46 rfl rfl rfl ?_⟩
    repeat ((try conv => whnf); first | (refine c_call ([]) (c1) (by ((repeat' (first | (exact trivial) | (exact rfl) | (refine And.intro ?_ ?_))); first | done | fail)) (by ((repeat' (first | (exact trivial) | (exact rfl) | (refine And.intro ?_ ?_))); first | done | fail)) (by decide) (by rfl) (by first | exact .inl rfl | (refine .inr ⟨?_, ?_⟩ <;> simp [own2, own1, own0, ownE])) ?_) | (refine c_call ([_]) (c2) (by ((repeat' (first | (exact trivial) | (exact rfl) | (decide) | (refine And.intro ?_ ?_))); first | done | fail)) (by ((repeat' (first | (exact trivial) | (exact rfl) | (decide) | (refine And.intro ?_ ?_))); first | done | fail)) (by decide) (by rfl) (by first | exact .inl rfl | (refine .inr ⟨?_, ?_⟩ <;> simp [own2, own1, own0, ownE])) ?_) | (refine c_call ([_]) (c3) (by ((repeat' (first | (exact trivial) | (exact rfl) | (decide) | (refine And.intro ?_ ?_))); first | done | fail)) (by ((repeat' (first | (exact trivial) | (exact rfl) | (decide) | (refine And.intro ?_ ?_))); first | done | fail)) (by decide) (by rfl) (by first | exact .inl rfl | (refine .inr ⟨?_, ?_⟩ <;> simp [own2, own1, own0, ownE])) ?_) | (refine c_call ([]) (c4) (by ((repeat' (first | (exact trivial) | (exact rfl) | (refine And.intro ?_ ?_))); first | done | fail)) (by ((repeat' (first | (exact trivial) | (exact rfl) | (refine And.intro ?_ ?_))); first | done | fail)) (by decide) (by rfl) (by first | exact .inl rfl | (refine .inr ⟨?_, ?_⟩ <;> simp [own2, own1, own0, ownE])) ?_) | (refine c_call ([_]) (c5) (by ((repeat' (first | (exact trivial) | (exact rfl) | (decide) | (refine And.intro ?_ ?_))); first | done | fail)) (by ((repeat' (first | (exact trivial) | (exact rfl) | (decide) | (refine And.intro ?_ ?_))); first | done | fail)) (by decide) (by rfl) (by first | exact .inl rfl | (refine .inr ⟨?_, ?_⟩ <;> simp [own2, own1, own0, ownE])) ?_) | (refine And.intro rfl ?_) | (refine w_addn (by omega) ?_) | (refine w_subn (by omega) ?_) | (refine w_add (by omega) ?_) | (refine w_sub (by omega) ?_) | (refine w_any (by omega) ?_) | (refine Exists.intro _ (And.intro rfl ?_)) | (with_reducible (refine cb_t rfl ?_)) | (with_reducible (refine cb_f rfl ?_)) | (refine cb_dt (by omega) ?_) | (refine cb_df (by omega) ?_) | (refine cb_nt (by omega) ?_) | (refine cb_nf (by omega) ?_) | (refine cb_t (by assumption) ?_) | (refine cb_f (by assumption) ?_) | (refine i_lt (by omega) ?_) | (refine i_le (by omega) ?_) | (refine i_cut (by omega) ?_) | (refine And.intro (by omega) ?_) | (refine And.intro trivial ?_) | (refine And.intro (by decide) ?_) | (refine And.intro (Nat.le_of_ble_eq_true rfl) ?_))
    (refine ans_auto (by rfl) ?_ ?_ (by rfl)) <;> (repeat' (first | (exact trivial) | (with_reducible rfl) | (exact (rfl : _ = true)) | (exact (rfl : _ = some _)) | (exact (rfl : _ = none)) | (refine And.intro ?_ ?_) | ((show (_ : Int) = _); omega) | ((fail_if_success (with_reducible (show _ = _))); (show _ = _)))) <;> first | rfl | decide
  · refine ⟨chText u, by omega, ct_intro tt_ok 1 rfl Try.func46 rfl rfl rfl ?_⟩
    repeat ((try conv => whnf); first | (refine c_call ([]) (c1) (by ((repeat' (first | (exact trivial) | (exact rfl) | (refine And.intro ?_ ?_))); first | done | fail)) (by ((repeat' (first | (exact trivial) | (exact rfl) | (refine And.intro ?_ ?_))); first | done | fail)) (by decide) (by rfl) (by first | exact .inl rfl | (refine .inr ⟨?_, ?_⟩ <;> simp [own2, own1, own0, ownE])) ?_) | (refine c_call ([_]) (c2) (by ((repeat' (first | (exact trivial) | (exact rfl) | (decide) | (refine And.intro ?_ ?_))); first | done | fail)) (by ((repeat' (first | (exact trivial) | (exact rfl) | (decide) | (refine And.intro ?_ ?_))); first | done | fail)) (by decide) (by rfl) (by first | exact .inl rfl | (refine .inr ⟨?_, ?_⟩ <;> simp [own2, own1, own0, ownE])) ?_) | (refine c_call ([_]) (c3) (by ((repeat' (first | (exact trivial) | (exact rfl) | (decide) | (refine And.intro ?_ ?_))); first | done | fail)) (by ((repeat' (first | (exact trivial) | (exact rfl) | (decide) | (refine And.intro ?_ ?_))); first | done | fail)) (by decide) (by rfl) (by first | exact .inl rfl | (refine .inr ⟨?_, ?_⟩ <;> simp [own2, own1, own0, ownE])) ?_) | (refine c_call ([]) (c4) (by ((repeat' (first | (exact trivial) | (exact rfl) | (refine And.intro ?_ ?_))); first | done | fail)) (by ((repeat' (first | (exact trivial) | (exact rfl) | (refine And.intro ?_ ?_))); first | done | fail)) (by decide) (by rfl) (by first | exact .inl rfl | (refine .inr ⟨?_, ?_⟩ <;> simp [own2, own1, own0, ownE])) ?_) | (refine And.intro rfl ?_) | (refine w_addn (by omega) ?_) | (refine w_subn (by omega) ?_) | (refine w_add (by omega) ?_) | (refine w_sub (by omega) ?_) | (refine w_any (by omega) ?_) | (refine Exists.intro _ (And.intro rfl ?_)) | (with_reducible (refine cb_t rfl ?_)) | (with_reducible (refine cb_f rfl ?_)) | (refine cb_dt (by omega) ?_) | (refine cb_df (by omega) ?_) | (refine cb_nt (by omega) ?_) | (refine cb_nf (by omega) ?_) | (refine cb_t (by assumption) ?_) | (refine cb_f (by assumption) ?_) | (refine i_lt (by omega) ?_) | (refine i_le (by omega) ?_) | (refine i_cut (by omega) ?_) | (refine And.intro (by omega) ?_) | (refine And.intro trivial ?_) | (refine And.intro (by decide) ?_) | (refine And.intro (Nat.le_of_ble_eq_true rfl) ?_))
    (refine ans_auto (by rfl) ?_ ?_ (by rfl)) <;> (repeat' (first | (exact trivial) | (with_reducible rfl) | (exact (rfl : _ = true)) | (exact (rfl : _ = some _)) | (exact (rfl : _ = none)) | (refine And.intro ?_ ?_) | ((show (_ : Int) = _); omega) | ((fail_if_success (with_reducible (show _ = _))); (show _ = _)))) <;> first | rfl | decide
end Go.Proofs.Ytkdajahiaedoiaa
