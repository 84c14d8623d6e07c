/- For every text, the program's ReadChange returns just what the reference's ReadChange returns. No condition. -/
import Derived.Test.YtkdajahiaedoiaaChange
import Derived.ProofKit
import Derived.OpenShut
import Derived.ShutString
import Derived.ChangeOld
namespace Go.Proofs.Ytkdajahiaedoiaa.fnExactReadChange
open Go.ChangeShapes Go.WideShapes Go.ChangeAt Go.RowKit Pl
open Go.ChangeMaps (open_string shut_string)
set_option linter.unusedVariables false

theorem own : ownKnob Try.prog.godebug = none := by kernel_rfl

theorem agree (t : Bs) : readChangeI t = readChangeS t := by
  rcases hA : numOf t 0 false with ⟨a, p1, b1⟩
  rcases hN : shortOf t p1 b1 with ⟨n, p2, b2⟩
  rcases hV : shortOf t p2 b2 with ⟨v, p3, b3⟩
  simp only [readChangeI, hA, hN, hV]
  simp only [readChangeS, numS_good, hA]
  cases b1
  · simp only [shortS_good, hN]
    cases b2
    · simp only [shortS_good, hV]
      cases b3
      · obtain ⟨_, _, e1, l1⟩ := numOf_enc hA
        obtain ⟨_, _, e2, l2⟩ := shortOf_enc hN
        obtain ⟨_, _, e3, l3⟩ := shortOf_enc hV
        have et : t = changeText a n v ++ t.drop p3 := by
          have : t = t.drop 0 := rfl
          conv => lhs; rw [this, e1, e2, e3]
          simp [changeText]
        have el : p3 = (changeText a n v).length := by simp [changeText]; omega
        by_cases hd : t.drop p3 = []
        · have h1 : p3 = t.length := by rw [hd, List.append_nil] at et; rw [el, ← et]
          have h2 : changeText a n v = t := by rw [hd, List.append_nil] at et; exact et.symm
          simp [doneB, h1, h2]
        · have h1 : p3 ≠ t.length := fun c => hd (List.drop_eq_nil_of_le (by omega))
          have h2 : changeText a n v ≠ t := fun c => h1 (by rw [el, c])
          simp [doneB, h1, h2]
      · simp [doneB]
    · have h3 := shortOf_bad t p2
      rw [hV] at h3
      simp only at h3
      subst h3
      simp [doneB, shortS]
  · have h2 := shortOf_bad t p1
    rw [hN] at h2
    simp only at h2
    subst h2
    have h3 := shortOf_bad t p2
    rw [hV] at h3
    simp only at h3
    subst h3
    simp [doneB, shortS]

set_option maxRecDepth 100000 in
set_option maxHeartbeats 400000 in
theorem eqChange_same (a : Nat) (n v : Bs) (w : World) :
    Calls Try.prog 12 #[.agg #[.int .i64 (a : Int), .string (bs n), .string (bs v)], .agg #[.int .i64 (a : Int), .string (bs n), .string (bs v)]] w fun e w' => e = .returned (.bool true) ∧ Below w.heap.size w w' := by
  go_enter Try.func12, Try.ntmps12
  go_wp2
  go_ret
  exact ⟨rfl, ((Below.refl _ w).alloc (Nat.le_refl _) _).alloc (by simp) _⟩

set_option maxRecDepth 100000 in
set_option maxHeartbeats 800000 in
theorem walk (s : ByteArray) (w : World) (w0 : s.size ≤ maxLen) :
    Calls Try.prog 3 #[.string s] w fun e w' => e = .returned (.bool true) ∧ Below w.heap.size w w' := by
  by_cases hs : (s.size : Int) ≤ 1048576
  · have hs' : (s.size : Int) ≤ 1000000000 := by omega
    have h1 := fun W => sReadChange_any s W hs'
    have h2 := fun W => readChange_any s W hs'
    rw [agree] at h2
    clear w0
    obtain ⟨a, n, v, ok, hval⟩ : ∃ (a : Nat) (n v : Bs) (ok : Bool), rcVal (readChangeS s.data.toList) = .tuple #[.agg #[.int .i64 (a : Int), .string (bs n), .string (bs v)], .bool ok] := by
      rcases readChangeS s.data.toList with _ | ⟨a, n, v⟩
      · exact ⟨0, [], [], false, rfl⟩
      · exact ⟨a, n, v, true, rfl⟩
    rw [hval] at h1 h2
    have he := eqChange_same a n v
    have H1 := Lib.hid h1
    have H2 := Lib.hid h2
    have HE := Lib.hid he
    have HV := Lib.hid hval
    clear h1 h2 he hval
    go_enter Try.func3, Try.ntmps3
    go_wp2_with (fail)
    refine (H1.out _).mono ?_
    rintro e w1 ⟨rfl, hb1⟩
    go_wp2_with (fail)
    refine (H2.out _).mono ?_
    rintro e w2 ⟨rfl, hb2⟩
    have hX := (Box.new w1 23 #[.int .i64 (a : Int), .string (bs n), .string (bs v)]).below hb2 (by simp)
    have x0 : w2.cell? ⟨w1.heap.size, 0, none⟩ = some (.int .i64 (a : Int)) := hX.cell 0
    have x1 : w2.cell? ⟨w1.heap.size, 1, none⟩ = some (.string (bs n)) := hX.cell 1
    have x2 : w2.cell? ⟨w1.heap.size, 2, none⟩ = some (.string (bs v)) := hX.cell 2
    have hz : w1.heap.size < w2.heap.size := hX.lt
    have hB : Below w.heap.size w w2 := (hb1.alloc hb1.size _).trans (hb2.mono (by simp; have := hb1.size; omega))
    clear hX
    cases ok
    all_goals
      go_wp2_with (go_at_call 12; refine (HE.out _).mono ?_; rintro e w3 ⟨rfl, hb3⟩)
      go_ret
      exact ⟨rfl, (hB.alloc hB.size _).trans (hb3.mono (by simp; have := hB.size; omega))⟩
  · go_enter Try.func3, Try.ntmps3
    go_wp2
    go_ret
    exact ⟨rfl, Below.refl _ _⟩

/-! ### the row's step -/
set_option maxRecDepth 100000 in
theorem lifted (os : Os) (started : os.Started) (H : Type) (enc : TypeId × Value → H) :
    ReturnsInHanded {} Try.checked os 3 .any (Rows.fnExactReadChangeSpec.pre6 enc Try.prog Try.f3 Rows.fnExactReadChangeRow.domain false) (Rows.fnExactReadChangeSpec.post enc Try.prog Try.f3 false true false false) := by
  refine returnsInHanded_of_change (C := Try.checked) own started (by kernel_rfl) Try.func3
    (ChangeSpec.witness6 (enc := enc) (C := Try.checked) false ⟨#[], #[.string ByteArray.empty], []⟩ 8 (by kernel_rfl) (by kernel_rfl) (by kernel_rfl) (by kernel_rfl)) ?_
  intro W base args ds gs before hval0 hW hcnd _
  have hval : ∀ (j : Nat) t v, Try.f3.params[j]? = some t → args[j]? = some v → Value.okWide Try.prog W .any base t v := hval0
  have hW' := hW
  obtain ⟨p, q, hA0, hV, rfl, hfz, hnd⟩ := hW
  have hA : DataW.TrodAll enc Try.prog W 0 (fun _ => true) true Try.f3.params.toList args.toList ds p := hA0
  rw [Try.params3] at hA hval
  obtain ⟨v0, vs0, d0, ds0, p0, q0, hargs, rfl, rfl, h0, r0⟩ := trodAll_cons hA
  obtain ⟨rfl, rfl, rfl⟩ := trodAll_nil r0
  obtain rfl : args = #[v0] := by cases args; simp_all
  obtain ⟨rfl, rfl⟩ := trodVars_none hV
  obtain ⟨a0, rfl, rfl, rfl, w0⟩ := open_string Try.underlying9 (hval 0 9 v0 rfl rfl) h0
  clear hA0 hval0
  simp only [List.append_nil] at hW'
  refine (walk a0 W w0).mono fun e W' ⟨he, bel⟩ => ?_
  subst he
  exact ⟨_, rfl, _, _, _, [], _, [], hW', trodAll_mk1 (shut_bool Try.underlying4 _), (trodAll_cons_mk (shut_string Try.underlying9 w0) trodAll_mk0), rfl, bel.frame _, fun h => by cases h⟩

theorem over : Rows.fnExactReadChangeRow.holds Try.pinned (OpenSpec.ofChange Rows.fnExactReadChangeSpec) :=
  OpenClaim.holds_of_wide 3 Try.f3 rfl rfl rfl rfl rfl rfl rfl ⟨rfl, rfl, rfl, rfl, rfl⟩ rfl rfl rfl rfl rfl (by kernel_rfl) Try.func3 (by kernel_rfl)
    (of_decide_eq_true (by kernel_rfl)) (by unfold Func.isWrapper; first | (rw [if_pos (by decide +kernel)]; kernel_rfl) | (rw [if_neg (by decide +kernel)]; exact ⟨rfl, rfl⟩))
    (fun os started H enc _ => lifted os started H enc)

/-- The statement. -/
theorem proved : Rows.FnExactReadChangeSaid := over

#print axioms proved
end Go.Proofs.Ytkdajahiaedoiaa.fnExactReadChange
