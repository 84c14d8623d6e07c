/- For every text, the program's ReadLetter returns just what the reference's ReadLetter returns. No condition. -/
import Derived.Test.YtkdajahiaedoiaaLetter3
import Derived.ProofKit
import Derived.OpenShut
import Derived.ShutString
import Derived.ChangeOld
namespace Go.Proofs.Ytkdajahiaedoiaa.fnExactReadLetter
open Go.ChangeShapes Go.WideShapes Go.ChangeAt Go.RowKit Pl
open Go.ChangeMaps (open_string shut_string)
set_option linter.unusedVariables false

theorem own : ownKnob Try.prog.godebug = none := by kernel_rfl

set_option maxRecDepth 100000 in
set_option maxHeartbeats 400000 in
theorem eqLetter_same (k f t e y : Nat) (r : Bs) (w : World) :
    Calls Try.prog 15 #[.agg #[.int .i64 (k : Int), .int .i64 (f : Int), .int .i64 (t : Int), .int .i64 (e : Int), .int .i64 (y : Int), .string (bs r)], .agg #[.int .i64 (k : Int), .int .i64 (f : Int), .int .i64 (t : Int), .int .i64 (e : Int), .int .i64 (y : Int), .string (bs r)]] w fun e w' => e = .returned (.bool true) ∧ Below w.heap.size w w' := by
  go_enter Try.func15, Try.ntmps15
  go_wp2
  go_ret
  exact ⟨rfl, ((Below.refl _ w).alloc (Nat.le_refl _) _).alloc (by simp) _⟩

theorem us2_ok (t : Bs) : (us2 t).2 = true → unsealed t = some (us2 t).1 := by
  unfold us2
  rcases unsealed t with _ | s
  · intro h; cases h
  · intro _; rfl

set_option maxRecDepth 100000 in
set_option maxHeartbeats 800000 in
theorem walk (s : ByteArray) (w : World) (w0 : s.size ≤ maxLen) :
    Calls Try.prog 4 #[.string s] w fun e w' => e = .returned (.bool true) ∧ Below w.heap.size w w' := by
  by_cases hs : (s.size : Int) ≤ 1048576
  · have hs' : (s.size : Int) ≤ 1000000000 := by omega
    have h1 := fun W => sReadLetter_any s W hs'
    have h2 := fun W => readLetter_any s W hs'
    rw [readLetter_agree s.data.toList _ _ (us2_ok _)] at h2
    clear w0
    obtain ⟨k, f, t, e, y, r, ok, hval⟩ : ∃ (k f t e y : Nat) (r : Bs) (ok : Bool), rlVal (readLetterS s.data.toList (us2 s.data.toList).1 (us2 s.data.toList).2) = .tuple #[.agg #[.int .i64 (k : Int), .int .i64 (f : Int), .int .i64 (t : Int), .int .i64 (e : Int), .int .i64 (y : Int), .string (bs r)], .bool ok] := by
      rcases readLetterS s.data.toList (us2 s.data.toList).1 (us2 s.data.toList).2 with _ | ⟨k, f, t, e, y, r⟩
      · exact ⟨0, 0, 0, 0, 0, [], false, rfl⟩
      · exact ⟨k, f, t, e, y, r, true, rfl⟩
    rw [hval] at h1 h2
    have he := eqLetter_same k f t e y r
    have H1 := Lib.hid h1
    have H2 := Lib.hid h2
    have HE := Lib.hid he
    have HV := Lib.hid hval
    clear h1 h2 he hval
    go_enter Try.func4, Try.ntmps4
    go_wp2_with (fail)
    refine (H1.out _).mono ?_
    rintro e' w1 ⟨rfl, hb1⟩
    go_wp2_with (fail)
    refine (H2.out _).mono ?_
    rintro e' w2 ⟨rfl, hb2⟩
    have hX := (Box.new w1 29 #[.int .i64 (k : Int), .int .i64 (f : Int), .int .i64 (t : Int), .int .i64 (e : Int), .int .i64 (y : Int), .string (bs r)]).below hb2 (by simp)
    have x0 : w2.cell? ⟨w1.heap.size, 0, none⟩ = some (.int .i64 (k : Int)) := hX.cell 0
    have x1 : w2.cell? ⟨w1.heap.size, 1, none⟩ = some (.int .i64 (f : Int)) := hX.cell 1
    have x2 : w2.cell? ⟨w1.heap.size, 2, none⟩ = some (.int .i64 (t : Int)) := hX.cell 2
    have x3 : w2.cell? ⟨w1.heap.size, 3, none⟩ = some (.int .i64 (e : Int)) := hX.cell 3
    have x4 : w2.cell? ⟨w1.heap.size, 4, none⟩ = some (.int .i64 (y : Int)) := hX.cell 4
    have x5 : w2.cell? ⟨w1.heap.size, 5, none⟩ = some (.string (bs r)) := hX.cell 5
    have hz : w1.heap.size < w2.heap.size := hX.lt
    have hB : Below w.heap.size w w2 := (hb1.alloc hb1.size _).trans (hb2.mono (by simp; have := hb1.size; omega))
    clear hX
    cases ok
    all_goals
      go_wp2_with (go_at_call 15; refine (HE.out _).mono ?_; rintro e' w3 ⟨rfl, hb3⟩)
      go_ret
      exact ⟨rfl, (hB.alloc hB.size _).trans (hb3.mono (by simp; have := hB.size; omega))⟩
  · go_enter Try.func4, Try.ntmps4
    go_wp2
    go_ret
    exact ⟨rfl, Below.refl _ _⟩

/-! ### the row's step -/
set_option maxRecDepth 100000 in
theorem lifted (os : Os) (started : os.Started) (H : Type) (enc : TypeId × Value → H) :
    ReturnsInHanded {} Try.checked os 4 .any (Rows.fnExactReadLetterSpec.pre6 enc Try.prog Try.f4 Rows.fnExactReadLetterRow.domain false) (Rows.fnExactReadLetterSpec.post enc Try.prog Try.f4 false true false false) := by
  refine returnsInHanded_of_change (C := Try.checked) own started (by kernel_rfl) Try.func4
    (ChangeSpec.witness6 (enc := enc) (C := Try.checked) false ⟨#[], #[.string ByteArray.empty], []⟩ 8 (by kernel_rfl) (by kernel_rfl) (by kernel_rfl) (by kernel_rfl)) ?_
  intro W base args ds gs before hval0 hW hcnd _
  have hval : ∀ (j : Nat) t v, Try.f4.params[j]? = some t → args[j]? = some v → Value.okWide Try.prog W .any base t v := hval0
  have hW' := hW
  obtain ⟨p, q, hA0, hV, rfl, hfz, hnd⟩ := hW
  have hA : DataW.TrodAll enc Try.prog W 0 (fun _ => true) true Try.f4.params.toList args.toList ds p := hA0
  rw [Try.params4] at hA hval
  obtain ⟨v0, vs0, d0, ds0, p0, q0, hargs, rfl, rfl, h0, r0⟩ := trodAll_cons hA
  obtain ⟨rfl, rfl, rfl⟩ := trodAll_nil r0
  obtain rfl : args = #[v0] := by cases args; simp_all
  obtain ⟨rfl, rfl⟩ := trodVars_none hV
  obtain ⟨a0, rfl, rfl, rfl, w0⟩ := open_string Try.underlying9 (hval 0 9 v0 rfl rfl) h0
  clear hA0 hval0
  simp only [List.append_nil] at hW'
  refine (walk a0 W w0).mono fun e W' ⟨he, bel⟩ => ?_
  subst he
  exact ⟨_, rfl, _, _, _, [], _, [], hW', trodAll_mk1 (shut_bool Try.underlying4 _), (trodAll_cons_mk (shut_string Try.underlying9 w0) trodAll_mk0), rfl, bel.frame _, fun h => by cases h⟩

theorem over : Rows.fnExactReadLetterRow.holds Try.pinned (OpenSpec.ofChange Rows.fnExactReadLetterSpec) :=
  OpenClaim.holds_of_wide 4 Try.f4 rfl rfl rfl rfl rfl rfl rfl ⟨rfl, rfl, rfl, rfl, rfl⟩ rfl rfl rfl rfl rfl (by kernel_rfl) Try.func4 (by kernel_rfl)
    (of_decide_eq_true (by kernel_rfl)) (by unfold Func.isWrapper; first | (rw [if_pos (by decide +kernel)]; kernel_rfl) | (rw [if_neg (by decide +kernel)]; exact ⟨rfl, rfl⟩))
    (fun os started H enc _ => lifted os started H enc)

/-- The statement. -/
theorem proved : Rows.FnExactReadLetterSaid := over

#print axioms proved
end Go.Proofs.Ytkdajahiaedoiaa.fnExactReadLetter
