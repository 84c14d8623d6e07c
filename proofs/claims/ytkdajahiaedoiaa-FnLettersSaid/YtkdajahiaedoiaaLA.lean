/- Functions by content: letters of both sides. -/
import Derived.Test.YtkdajahiaedoiaaOld
import Derived.Test.YtkdajahiaedoiaaLetter3
import Derived.Test.YtkdajahiaedoiaaFE
import Derived.Test.YtkdajahiaedoiaaPlainTurn
import Derived.Test.YtkdajahiaedoiaaV21
namespace Go.Proofs.Ytkdajahiaedoiaa
open Go.RowKit Pl
set_option linter.unusedVariables false
set_option linter.unusedSimpArgs false
attribute [local irreducible] CondB CallP LoopW AnsP LeP

def ltL (k f t e y : Int) (r : Bs) : List T := [.int .i64 k, .int .i64 f, .int .i64 t, .int .i64 e, .int .i64 y, .str r]
theorem c_LetterOk (k f t e y : Int) (r : Bs) : CT Try.prog 38 [] [.agg (ltL k f t e y r)] (.bool (letterOk k f t e y r)) [] :=
  old_ct ⟨_, Try.func38, rfl, rfl⟩ rfl (fun X => mk_bool X _) fun w => by
    have h := letterOk_any k f t e y (bs r) w
    rwa [bs_data] at h
theorem c_sLetterOk (k f t e y : Int) (r : Bs) : CT Try.prog 37 [] [.agg (ltL k f t e y r)] (.bool (letterOk k f t e y r)) [] :=
  old_ct ⟨_, Try.func37, rfl, rfl⟩ rfl (fun X => mk_bool X _) fun w => by
    have h := sLetterOk_any k f t e y (bs r) w
    rwa [bs_data] at h
theorem lt_nats {k f t e y : Int} {r : Bs} (h : letterOk k f t e y r = true) : ∃ k' f' t' e' y' : Nat, k = k' ∧ f = f' ∧ t = t' ∧ e = e' ∧ y = y' := by
  have := letterOk_bounds h
  exact ⟨k.toNat, f.toNat, t.toNat, e.toNat, y.toNat, by omega, by omega, by omega, by omega, by omega⟩
def ltText (k f t e y : Int) (r : Bs) : Bs := bif letterOk k f t e y r then letterText k.toNat f.toNat t.toNat e.toNat y.toNat r else []
theorem pair_rs2 (X : Cx) (s : Bs) (b : Bool) : RS X (.tup [.str s, .bool b]) (.tuple #[.string (bs s), .bool b]) :=
  ⟨_, rfl, _, _, rfl, mk_str X _, _, _, rfl, mk_bool X _, rfl⟩
theorem c_sLetterText (k f t e y : Int) (r : Bs) : CT Try.prog 59 [] [.agg (ltL k f t e y r)] (.tup [.str (ltText k f t e y r), .bool (letterOk k f t e y r)]) [] := by
  unfold ltText
  cases ho : letterOk k f t e y r
  · refine old_ct ⟨_, Try.func59, rfl, rfl⟩ rfl (fun X => pair_rs2 X _ _) fun w => ?_
    exact sLetterText_no k f t e y (bs r) w (by rw [bs_data]; exact ho)
  · obtain ⟨k', f', t', e', y', rfl, rfl, rfl, rfl, rfl⟩ := lt_nats ho
    refine old_ct ⟨_, Try.func59, rfl, rfl⟩ rfl (fun X => pair_rs2 X _ _) fun w => ?_
    have h := sLetterText_yes k' f' t' e' y' (bs r) w (by rw [bs_data]; exact ho)
    rw [bs_data] at h
    exact h
def usT : Option Bs → T
  | none => .tup [.str [], .bool false]
  | some l => .tup [.str l, .bool true]
theorem us_rs (o : Option Bs) (X : Cx) : RS X (usT o) (usVal o) := by cases o <;> exact pair_rs2 X _ _
theorem c_sUnsealed (t : Bs) (ht : (t.length : Int) ≤ 1000000000) : CT Try.prog 57 [] [.str t] (usT (unsealed t)) [] :=
  old_ct ⟨_, Try.func57, rfl, rfl⟩ rfl (us_rs _) fun w => by
    have h := sUnsealed_any (bs t) w (by rw [bs_size]; exact ht)
    rwa [bs_data] at h
theorem c_Sealed (t : Bs) (ht : (t.length : Int) ≤ 20000) : CT Try.prog 82 [] [.str t] (.tup [.str (sealed t), .bool true]) [] :=
  old_ct ⟨_, Try.func82, rfl, rfl⟩ rfl (fun X => pair_rs2 X _ _) fun w => by
    have h := sealed_yes (bs t) w (by rw [bs_size]; exact ht)
    rwa [bs_data] at h
theorem c_sSealed (t : Bs) (ht : (t.length : Int) ≤ 20000) : CT Try.prog 88 [] [.str t] (.tup [.str (sealed t), .bool true]) [] :=
  old_ct ⟨_, Try.func88, rfl, rfl⟩ rfl (fun X => pair_rs2 X _ _) fun w => by
    have h := sSealed_yes (bs t) w (by rw [bs_size]; exact ht)
    rwa [bs_data] at h
def rlT : Option Lt → T
  | none => .tup [.agg (ltL 0 0 0 0 0 []), .bool false]
  | some (k, f, t, e, y, r) => .tup [.agg (ltL (k : Int) (f : Int) (t : Int) (e : Int) (y : Int) r), .bool true]
theorem rl_rs (o : Option Lt) (X : Cx) : RS X (rlT o) (rlVal o) := by
  have key : ∀ (k f t e y : Int) (r : Bs) (b : Bool), RS X (.tup [.agg (ltL k f t e y r), .bool b]) (.tuple #[.agg #[.int .i64 k, .int .i64 f, .int .i64 t, .int .i64 e, .int .i64 y, .string (bs r)], .bool b]) := fun k f t e y r b =>
    ⟨_, rfl, _, _, rfl, ⟨_, rfl, _, _, rfl, rfl, mk_int X _ _, _, _, rfl, rfl, mk_int X _ _, _, _, rfl, rfl, mk_int X _ _, _, _, rfl, rfl, mk_int X _ _, _, _, rfl, rfl, mk_int X _ _, _, _, rfl, rfl, mk_str X _, rfl⟩, _, _, rfl, mk_bool X _, rfl⟩
  cases o with
  | none => exact key 0 0 0 0 0 [] false
  | some x => exact key _ _ _ _ _ _ true
theorem c_ReadLetter (t : Bs) (ht : (t.length : Int) ≤ 1000000000) : CT Try.prog 14 [] [.str t] (rlT (readLetterI (us2 t).1 (us2 t).2)) [] :=
  old_ct ⟨_, Try.func14, rfl, rfl⟩ rfl (rl_rs _) fun w => by
    have h := readLetter_any (bs t) w (by rw [bs_size]; exact ht)
    rwa [bs_data] at h
theorem us2_agree (t : Bs) : readLetterI (us2 t).1 (us2 t).2 = readLetterS t (us2 t).1 (us2 t).2 := by
  refine readLetter_agree t _ _ fun h => ?_
  unfold us2 at h ⊢
  cases hu : unsealed t with
  | none => rw [hu] at h; cases h
  | some s => rfl
theorem c_sReadLetter (t : Bs) (ht : (t.length : Int) ≤ 1000000000) : CT Try.prog 13 [] [.str t] (rlT (readLetterI (us2 t).1 (us2 t).2)) [] :=
  old_ct ⟨_, Try.func13, rfl, rfl⟩ rfl (rl_rs _) fun w => by
    have h := sReadLetter_any (bs t) w (by rw [bs_size]; exact ht)
    rw [bs_data, ← us2_agree] at h
    exact h
theorem oneOf_dec {t : Bs} {p : Nat} {x : UInt8} {r : Bs} (h : t.drop p = x :: r) : oneOf t p false = (x.toNat, p + 1, false) := by
  have hl := congrArg List.length h
  simp at hl
  unfold oneOf bytesOf
  rw [if_neg (by simp; omega), h]
  rfl
theorem body_len {k f t e y : Nat} {r : Bs} (h : letterOk k f t e y r = true) : (letterBody k f t e y r).length ≤ 100 := by
  have hb := letterOk_bounds h
  have := varText_len (n := y) (by omega)
  simp only [letterBody, List.length_append, List.length_cons, List.length_nil]
  omega
theorem unsealed_sealed {s : Bs} (h : s.length ≤ 20000) : unsealed (sealed s) = some s := by
  have hl : (sealed s).length = s.length + 4 := by simp [sealed, fourB_len]
  unfold unsealed
  rw [if_pos]
  · rw [hl, Nat.add_sub_cancel, sealed, List.take_left]
  · refine ⟨by omega, by omega, ?_⟩
    rw [hl, Nat.add_sub_cancel, sealed, List.take_left, List.drop_left]
/-- A letter is read as it was written. -/
theorem letter_back {k f t e y : Nat} {r : Bs} (h : letterOk k f t e y r = true) : readLetterI (us2 (letterText k f t e y r)).1 (us2 (letterText k f t e y r)).2 = some (k, f, t, e, y, r) := by
  have hb := letterOk_bounds h
  have hu : us2 (letterText k f t e y r) = (letterBody k f t e y r, true) := by
    unfold us2 letterText
    rw [unsealed_sealed (by have := body_len h; omega)]
  rw [hu]
  have h0 : (letterBody k f t e y r).drop 0 = UInt8.ofNat k :: UInt8.ofNat f :: UInt8.ofNat t :: UInt8.ofNat e :: (varText y ++ r) := by simp [letterBody]
  have hK := oneOf_dec h0
  have h1 : (letterBody k f t e y r).drop (0 + 1) = UInt8.ofNat f :: UInt8.ofNat t :: UInt8.ofNat e :: (varText y ++ r) := by simp [letterBody]
  have hF := oneOf_dec h1
  have h2 : (letterBody k f t e y r).drop (0 + 1 + 1) = UInt8.ofNat t :: UInt8.ofNat e :: (varText y ++ r) := by simp [letterBody]
  have hT := oneOf_dec h2
  have h3 : (letterBody k f t e y r).drop (0 + 1 + 1 + 1) = UInt8.ofNat e :: (varText y ++ r) := by simp [letterBody]
  have hE := oneOf_dec h3
  have h4 : (letterBody k f t e y r).drop (0 + 1 + 1 + 1 + 1) = varText y ++ r := by simp [letterBody]
  have hY := numOf_dec (by omega) h4 false
  have e8 : ∀ n : Nat, n ≤ 255 → (UInt8.ofNat n).toNat = n := fun n hn => by simp; omega
  rw [e8 k (by omega)] at hK
  rw [e8 f (by omega)] at hF
  rw [e8 t (by omega)] at hT
  rw [e8 e (by omega)] at hE
  have hd : (letterBody k f t e y r).drop (0 + 1 + 1 + 1 + 1 + (varText y).length) = r := by rw [← List.drop_drop, h4, List.drop_left]
  simp only [readLetterI, hK, hF, hT, hE, hY, hd]
  rw [if_pos ⟨trivial, trivial, h⟩]
/-- What is read is what the text says. -/
theorem letter_again {t : Bs} {k f x e y : Nat} {r : Bs} (h : readLetterI (us2 t).1 (us2 t).2 = some (k, f, x, e, y, r)) : ltText k f x e y r = t := by
  rw [us2_agree] at h
  unfold readLetterS at h
  rcases h1 : oneOf (us2 t).1 0 (!(us2 t).2) with ⟨k', p1, b1⟩
  rcases h2 : oneOf (us2 t).1 p1 b1 with ⟨f', p2, b2⟩
  rcases h3 : oneOf (us2 t).1 p2 b2 with ⟨x', p3, b3⟩
  rcases h4 : oneOf (us2 t).1 p3 b3 with ⟨e', p4, b4⟩
  rcases h5 : numS (us2 t).1 p4 b4 with ⟨y', p5, b5⟩
  simp only [h1, h2, h3, h4, h5] at h
  split at h
  · rename_i hc
    injection h with h
    simp only [Prod.mk.injEq] at h
    obtain ⟨rfl, rfl, rfl, rfl, rfl, rfl⟩ := h
    rw [ltText, hc.2.1]
    exact hc.2.2
  · cases h
set_option maxRecDepth 100000 in
set_option maxHeartbeats 2000000 in
theorem c_LetterText (k f t e y : Int) (r : Bs) : CT Try.prog 36 [] [.agg (ltL k f t e y r)] (.tup [.str (ltText k f t e y r), .bool (letterOk k f t e y r)]) [] := by
  have cO := c_LetterOk k f t e y r
  refine ct_intro tt_ok 1 rfl Try.func36 rfl rfl rfl ?_
  unfold ltText
  cases ho : letterOk k f t e y r
  · rw [ho] at cO
    repeat ((try conv => whnf); first | (refine c_call ([]) (cO) (by ((repeat' (first | (exact trivial) | (exact rfl) | (refine And.intro ?_ ?_))); first | done | fail)) (by ((repeat' (first | (exact trivial) | (exact rfl) | (refine And.intro ?_ ?_))); first | done | fail)) (by decide) (by rfl) (by first | exact .inl rfl | (refine .inr ⟨?_, ?_⟩ <;> simp [own2, own1, own0, ownE])) ?_) | (refine And.intro (by kernel_rfl) ?_) | (refine And.intro rfl ?_) | (refine w_addn (by omega) ?_) | (refine w_subn (by omega) ?_) | (refine w_add (by omega) ?_) | (refine w_sub (by omega) ?_) | (refine w_any (by omega) ?_) | (refine Exists.intro _ (And.intro rfl ?_)) | (with_reducible (refine cb_t rfl ?_)) | (with_reducible (refine cb_f rfl ?_)) | (refine cb_dt (by omega) ?_) | (refine cb_df (by omega) ?_) | (refine cb_nt (by omega) ?_) | (refine cb_nf (by omega) ?_) | (refine cb_t (by assumption) ?_) | (refine cb_f (by assumption) ?_) | (refine i_lt (by omega) ?_) | (refine i_le (by omega) ?_) | (refine i_cut (by omega) ?_) | (refine And.intro (by omega) ?_) | (refine And.intro trivial ?_) | (refine And.intro (by decide) ?_) | (refine And.intro (Nat.le_of_ble_eq_true rfl) ?_))
    (refine ans_auto (by rfl) ?_ ?_ (by rfl)) <;> (repeat' (first | (exact trivial) | (with_reducible rfl) | (exact (rfl : _ = true)) | (exact (rfl : _ = some _)) | (exact (rfl : _ = none)) | (refine And.intro ?_ ?_) | ((show (_ : Int) = _); omega) | ((fail_if_success (with_reducible (show _ = _))); (show _ = _)))) <;> rfl
  · rw [ho] at cO
    obtain ⟨k', f', t', e', y', rfl, rfl, rfl, rfl, rfl⟩ := lt_nats ho
    have hb := letterOk_bounds ho
    have hbl := body_len ho
    have hv := varTextL (n := y') (by omega)
    have cV := c_varText y' (by omega)
    have cS := c_Sealed ([UInt8.ofNat k', UInt8.ofNat f', UInt8.ofNat t', UInt8.ofNat e'] ++ varText y' ++ r) (by have : [UInt8.ofNat k', UInt8.ofNat f', UInt8.ofNat t', UInt8.ofNat e'] ++ varText y' ++ r = letterBody k' f' t' e' y' r := rfl; rw [this]; omega)
    repeat ((try conv => whnf); first | (refine c_call ([]) (cO) (by ((repeat' (first | (exact trivial) | (exact rfl) | (refine And.intro ?_ ?_))); first | done | fail)) (by ((repeat' (first | (exact trivial) | (exact rfl) | (refine And.intro ?_ ?_))); first | done | fail)) (by decide) (by rfl) (by first | exact .inl rfl | (refine .inr ⟨?_, ?_⟩ <;> simp [own2, own1, own0, ownE])) ?_) | (refine w_u8 ?_) | (refine Exists.intro [UInt8.ofNat k', UInt8.ofNat f', UInt8.ofNat t', UInt8.ofNat e'] (And.intro rfl ?_)) | (refine c_call ([]) (cV) (by ((repeat' (first | (exact trivial) | (exact rfl) | (refine And.intro ?_ ?_))); first | done | fail)) (by ((repeat' (first | (exact trivial) | (exact rfl) | (refine And.intro ?_ ?_))); first | done | fail)) (by decide) (by rfl) (by first | exact .inl rfl | (refine .inr ⟨?_, ?_⟩ <;> simp [own2, own1, own0, ownE])) ?_) | (refine And.intro (by simp only [List.length_append, List.length_cons, List.length_nil]; omega) ?_) | (refine c_call ([]) (cS) (by ((repeat' (first | (exact trivial) | (exact rfl) | (refine And.intro ?_ ?_))); first | done | fail)) (by ((repeat' (first | (exact trivial) | (exact rfl) | (refine And.intro ?_ ?_))); first | done | fail)) (by decide) (by rfl) (by first | exact .inl rfl | (refine .inr ⟨?_, ?_⟩ <;> simp [own2, own1, own0, ownE])) ?_) | (refine And.intro (by kernel_rfl) ?_) | (refine And.intro rfl ?_) | (refine w_addn (by omega) ?_) | (refine w_subn (by omega) ?_) | (refine w_add (by omega) ?_) | (refine w_sub (by omega) ?_) | (refine w_any (by omega) ?_) | (refine Exists.intro _ (And.intro rfl ?_)) | (with_reducible (refine cb_t rfl ?_)) | (with_reducible (refine cb_f rfl ?_)) | (refine cb_dt (by omega) ?_) | (refine cb_df (by omega) ?_) | (refine cb_nt (by omega) ?_) | (refine cb_nf (by omega) ?_) | (refine cb_t (by assumption) ?_) | (refine cb_f (by assumption) ?_) | (refine i_lt (by omega) ?_) | (refine i_le (by omega) ?_) | (refine i_cut (by omega) ?_) | (refine And.intro (by omega) ?_) | (refine And.intro trivial ?_) | (refine And.intro (by decide) ?_) | (refine And.intro (Nat.le_of_ble_eq_true rfl) ?_))
    (refine ans_auto (by rfl) ?_ ?_ (by rfl)) <;> (repeat' (first | (exact trivial) | (with_reducible rfl) | (exact (rfl : _ = true)) | (exact (rfl : _ = some _)) | (exact (rfl : _ = none)) | (refine And.intro ?_ ?_) | ((show (_ : Int) = _); omega) | ((fail_if_success (with_reducible (show _ = _))); (show _ = _)))) <;> rfl
end Go.Proofs.Ytkdajahiaedoiaa
