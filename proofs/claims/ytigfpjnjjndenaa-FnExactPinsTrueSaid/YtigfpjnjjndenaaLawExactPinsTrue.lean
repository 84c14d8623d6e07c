/- For every world, the program and the reference answer alike whether pins of honest providers are their heads, and the world is left as it was. No condition beyond the statement. -/
import Derived.Test.YtigfpjnjjndenaaPt
import Derived.Test.YtigfpjnjjndenaaExS
import Derived.Test.YtigfpjnjjndenaaExO
import Derived.Test.YtigfpjnjjndenaaExE
import Derived.Test.YtigfpjnjjndenaaExK
import Derived.Test.YtigfpjnjjndenaaShp
import Derived.Test.YtigfpjnjjndenaaShell
import Derived.ProofKit
import Derived.OpenShut
import Derived.ShutString
import Derived.ChangeOld
namespace Go.Proofs.Ytigfpjnjjndenaa.fnExactPinsTrue
open Go.ChangeShapes Go.WideShapes Go.ChangeAt Go.RowKit Pl
open Go.ChangeMaps (open_string shut_string)
set_option linter.unusedVariables false
set_option linter.unusedSimpArgs false

theorem own : ownKnob Try.prog.godebug = none := by kernel_rfl
theorem laidOut : laidOutB Try.prog = true := by kernel_rfl
section
theorem alike (e : List T) (q : Fits 1048576 sh_World e) : ∃ b, CT Try.prog 11 [] [.agg e] (.bool b) [] ∧ CT Try.prog 13 [] [.agg e] (.bool b) [] := by
  obtain ⟨z0, z1, z2, z3, z4, z5, rfl, q0, q1, q2, q3, q4, q5, -⟩ := fits_World q
  exact ⟨_, c_sPinsTrue z0 z1 z2 z3 z4 z5 q0 q1 q4, c_PinsTrue z0 z1 z2 z3 z4 z5 q0 q1 q4⟩
attribute [local irreducible] CondB CallP LoopW AnsP LeP
set_option maxRecDepth 100000 in
set_option maxHeartbeats 8000000 in
theorem c_law (e0 : List T) (f0 : Fits maxLen sh_World e0) : CT Try.prog 4 [] [.agg e0] (.bool true) [] := by
  have f0_ := f0
  obtain ⟨z0_0, z1_0, z2_0, z3_0, z4_0, z5_0, he0, -⟩ := fits_World f0_
  subst he0
  clear f0_
  have c0 := c_szWorld [.sl 14 z0_0, .sl 6 z1_0, .sl 2 z2_0, .sl 7 z3_0, .sl 1 z4_0, .sl 1 z5_0] (1048576) f0 (by omega)
  have b0 := szG_le sh_World [.sl 14 z0_0, .sl 6 z1_0, .sl 2 z2_0, .sl 7 z3_0, .sl 1 z4_0, .sl 1 z5_0] (1048576) (by omega)
  have g0 := szG_fits (N := 1048576) sh_World [.sl 14 z0_0, .sl 6 z1_0, .sl 2 z2_0, .sl 7 z3_0, .sl 1 z4_0, .sl 1 z5_0] (1048576) (by omega) f0 (by omega)
  generalize szG sh_World [.sl 14 z0_0, .sl 6 z1_0, .sl 2 z2_0, .sl 7 z3_0, .sl 1 z4_0, .sl 1 z5_0] (1048576) = r0 at c0 b0 g0
  by_cases h0 : r0 < 0
  · clear g0
    refine ct_intro ttE_ok 1 rfl Try.func4 rfl rfl rfl ?_
    repeat ((try conv => whnf); first | (refine c_call ([]) (c0) (by ((repeat' (first | (exact trivial) | (exact rfl) | (refine And.intro ?_ ?_))); first | done | fail)) (by ((repeat' (first | (exact trivial) | (exact rfl) | (refine And.intro ?_ ?_))); first | done | fail)) (by decide) (by rfl) (by first | exact .inl rfl | (refine .inr ⟨?_, ?_⟩ <;> simp [own2, own1, own0, ownE])) ?_) | (refine And.intro rfl ?_) | (refine w_addn (by omega) ?_) | (refine w_subn (by omega) ?_) | (refine w_add (by omega) ?_) | (refine w_sub (by omega) ?_) | (refine w_any (by omega) ?_) | (refine Exists.intro _ (And.intro rfl ?_)) | (with_reducible (refine cb_t rfl ?_)) | (with_reducible (refine cb_f rfl ?_)) | (refine cb_dt (by omega) ?_) | (refine cb_df (by omega) ?_) | (refine cb_nt (by omega) ?_) | (refine cb_nf (by omega) ?_) | (refine cb_t (by assumption) ?_) | (refine cb_f (by assumption) ?_) | (refine i_lt (by omega) ?_) | (refine i_le (by omega) ?_) | (refine i_cut (by omega) ?_) | (refine And.intro (by omega) ?_) | (refine And.intro trivial ?_) | (refine And.intro (by decide) ?_) | (refine And.intro (Nat.le_of_ble_eq_true rfl) ?_))
    (refine ans_auto (by rfl) ?_ ?_ (by rfl)) <;> repeat' (first | (exact trivial) | (with_reducible rfl) | (exact (rfl : _ = true)) | (exact (rfl : _ = some _)) | (exact (rfl : _ = none)) | (refine And.intro ?_ ?_) | ((show (_ : Int) = _); omega) | ((fail_if_success (with_reducible (show _ = _))); (show _ = _)))
  have q0 := g0 (by omega)
  clear g0 f0
  have t0 := c_toWorld [.sl 14 z0_0, .sl 6 z1_0, .sl 2 z2_0, .sl 7 z3_0, .sl 1 z4_0, .sl 1 z5_0] q0
  have u0 := c_eqWorld [.sl 14 z0_0, .sl 6 z1_0, .sl 2 z2_0, .sl 7 z3_0, .sl 1 z4_0, .sl 1 z5_0] q0
  obtain ⟨b, s1, s2⟩ := alike [.sl 14 z0_0, .sl 6 z1_0, .sl 2 z2_0, .sl 7 z3_0, .sl 1 z4_0, .sl 1 z5_0] q0
  have e : !(!decide (b = b)) = true := by cases b <;> rfl
  refine ct_intro ttE_ok 1 rfl Try.func4 rfl rfl rfl ?_
  repeat ((try conv => whnf); first | (refine c_call ([]) (c0) (by ((repeat' (first | (exact trivial) | (exact rfl) | (refine And.intro ?_ ?_))); first | done | fail)) (by ((repeat' (first | (exact trivial) | (exact rfl) | (refine And.intro ?_ ?_))); first | done | fail)) (by decide) (by rfl) (by first | exact .inl rfl | (refine .inr ⟨?_, ?_⟩ <;> simp [own2, own1, own0, ownE])) ?_) | (refine c_call ([]) (t0) (by ((repeat' (first | (exact trivial) | (exact rfl) | (refine And.intro ?_ ?_))); first | done | fail)) (by ((repeat' (first | (exact trivial) | (exact rfl) | (refine And.intro ?_ ?_))); first | done | fail)) (by decide) (by rfl) (by first | exact .inl rfl | (refine .inr ⟨?_, ?_⟩ <;> simp [own2, own1, own0, ownE])) ?_) | (refine c_call ([]) (s1) (by ((repeat' (first | (exact trivial) | (exact rfl) | (refine And.intro ?_ ?_))); first | done | fail)) (by ((repeat' (first | (exact trivial) | (exact rfl) | (refine And.intro ?_ ?_))); first | done | fail)) (by decide) (by rfl) (by first | exact .inl rfl | (refine .inr ⟨?_, ?_⟩ <;> simp [own2, own1, own0, ownE])) ?_) | (refine c_call ([]) (s2) (by ((repeat' (first | (exact trivial) | (exact rfl) | (refine And.intro ?_ ?_))); first | done | fail)) (by ((repeat' (first | (exact trivial) | (exact rfl) | (refine And.intro ?_ ?_))); first | done | fail)) (by decide) (by rfl) (by first | exact .inl rfl | (refine .inr ⟨?_, ?_⟩ <;> simp [own2, own1, own0, ownE])) ?_) | (refine c_call ([]) (u0) (by ((repeat' (first | (exact trivial) | (exact rfl) | (refine And.intro ?_ ?_))); first | done | fail)) (by ((repeat' (first | (exact trivial) | (exact rfl) | (refine And.intro ?_ ?_))); first | done | fail)) (by decide) (by rfl) (by first | exact .inl rfl | (refine .inr ⟨?_, ?_⟩ <;> simp [own2, own1, own0, ownE])) ?_) | (refine cb_nf rfl ?_) | (refine And.intro (by kernel_rfl) ?_) | (refine And.intro rfl ?_) | (refine w_addn (by omega) ?_) | (refine w_subn (by omega) ?_) | (refine w_add (by omega) ?_) | (refine w_sub (by omega) ?_) | (refine w_any (by omega) ?_) | (refine Exists.intro _ (And.intro rfl ?_)) | (with_reducible (refine cb_t rfl ?_)) | (with_reducible (refine cb_f rfl ?_)) | (refine cb_dt (by omega) ?_) | (refine cb_df (by omega) ?_) | (refine cb_nt (by omega) ?_) | (refine cb_nf (by omega) ?_) | (refine cb_t (by assumption) ?_) | (refine cb_f (by assumption) ?_) | (refine i_lt (by omega) ?_) | (refine i_le (by omega) ?_) | (refine i_cut (by omega) ?_) | (refine And.intro (by omega) ?_) | (refine And.intro trivial ?_) | (refine And.intro (by decide) ?_) | (refine And.intro (Nat.le_of_ble_eq_true rfl) ?_))
  (refine ans_auto (by rfl) ?_ ?_ (by rfl)) <;> repeat' (first | (exact trivial) | (with_reducible rfl) | (exact (rfl : _ = true)) | (exact (rfl : _ = some _)) | (exact (rfl : _ = none)) | (refine And.intro ?_ ?_) | ((show (_ : Int) = _); omega) | ((fail_if_success (with_reducible (show _ = _))); (show _ = _)))
end
theorem no_glob : ∀ g, glob g = none := fun g => rfl
/-- The walk. -/
theorem walk (c0 : Array Value) (z0 : List T) (w : World) (w0 : Fits maxLen sh_World z0 ∧ RL (fun _ => none) w z0 c0.toList) :
    Calls Try.prog 4 #[.agg c0] w fun e w' => e = .returned (.bool true) ∧ Below w.heap.size w w' :=
  ct_walk (c_law z0 w0.1) w (fun g cs h => by rw [no_glob] at h; cases h) (vs := [.agg c0]) ⟨_, _, rfl, ⟨c0, rfl, RL.rsl w0.2⟩, rfl⟩

/-! ### the row's step -/
set_option maxRecDepth 100000 in
theorem lifted (os : Os) (started : os.Started) (H : Type) (enc : TypeId × Value → H) :
    ReturnsInHanded {} Try.checked os 4 .any (Rows.fnExactPinsTrueSpec.pre6 enc Try.prog Try.f4 Rows.fnExactPinsTrueRow.domain false) (Rows.fnExactPinsTrueSpec.post enc Try.prog Try.f4 false true false false) := by
  refine returnsInHanded_of_change (C := Try.checked) own started (by kernel_rfl) Try.func4
    (ChangeSpec.witness6 (enc := enc) (C := Try.checked) false ⟨#[], #[.agg #[.slice none 0 0, .slice none 0 0, .slice none 0 0, .slice none 0 0, .slice none 0 0, .slice none 0 0]], []⟩ 8 (by kernel_rfl) (by kernel_rfl) (by kernel_rfl) (by kernel_rfl)) ?_
  intro W base args ds gs before hval0 hW hcnd _
  have hval : ∀ (j : Nat) t v, Try.f4.params[j]? = some t → args[j]? = some v → Value.okWide Try.prog W .any base t v := hval0
  have hW' := hW
  obtain ⟨p, q, hA0, hV, rfl, hfz, hnd⟩ := hW
  have hA : DataW.TrodAll enc Try.prog W 0 (fun _ => true) true Try.f4.params.toList args.toList ds p := hA0
  rw [Try.params4] at hA hval
  obtain ⟨v0, vs0, d0, ds0, p0, q0, hargs, rfl, rfl, h0, r0⟩ := trodAll_cons hA
  obtain ⟨rfl, rfl, rfl⟩ := trodAll_nil r0
  obtain rfl : args = #[v0] := by cases args; simp_all
  obtain ⟨rfl, rfl⟩ := trodVars_none hV
  obtain ⟨c0, rfl, _⟩ := okWide_struct Try.underlying47 (hval 0 47 v0 rfl rfl)
  have k0 := h0
  have lt0 : ∀ x ∈ p0, x.block < W.heap.size := by obtain ⟨m, hm⟩ := k0; exact DataW.trod_lt m _ _ _ hm
  obtain ⟨z0, w0⟩ : ∃ ts, Fits maxLen sh_World ts ∧ RL (fun _ => none) W ts c0.toList := by
    obtain ⟨fuel, hf⟩ := h0
    exact trod_fit fuel _ _ _ _ tok_World hf
  clear hA0 hval0
  refine (walk c0 z0 W w0).mono fun e W' ⟨he, bel⟩ => ?_
  subst he
  exact ⟨_, rfl, _, _, _, [], _, [], hW', trodAll_mk1 (shut_bool Try.underlying4 _), (trodAll_cons_mk (Below.trod laidOut (by kernel_rfl) (of_decide_eq_true (by kernel_rfl)) k0 bel lt0) trodAll_mk0), rfl, bel.frame _, fun h => by cases h⟩

theorem over : Rows.fnExactPinsTrueRow.holds Try.pinned (OpenSpec.ofChange Rows.fnExactPinsTrueSpec) :=
  OpenClaim.holds_of_wide 4 Try.f4 rfl rfl rfl rfl rfl rfl rfl ⟨rfl, rfl, rfl, rfl, rfl⟩ rfl rfl rfl rfl rfl (by kernel_rfl) Try.func4 (by kernel_rfl)
    (of_decide_eq_true (by kernel_rfl)) (by unfold Func.isWrapper; first | (rw [if_pos (by decide +kernel)]; kernel_rfl) | (rw [if_neg (by decide +kernel)]; exact ⟨rfl, rfl⟩))
    (fun os started H enc _ => lifted os started H enc)

/-- The statement. -/
theorem proved : Rows.FnExactPinsTrueSaid := over

#print axioms proved
end Go.Proofs.Ytigfpjnjjndenaa.fnExactPinsTrue
