/- For every text, the program's ReadLeaves returns just what the reference's ReadLeaves returns, and what it returns is its own. No condition. -/
import Derived.Test.YtkdajahiaedoiaaReadLeaves
import Derived.ProofKit
import Derived.OpenShut
import Derived.ShutString
import Derived.ChangeOld
namespace Go.Proofs.Ytkdajahiaedoiaa.fnExactReadLeaves
open Go.ChangeShapes Go.WideShapes Go.ChangeAt Go.RowKit Pl
open Go.ChangeMaps (open_string shut_string)
set_option linter.unusedVariables false

theorem own : ownKnob Try.prog.godebug = none := by kernel_rfl

theorem readLvS_len (t : Bs) : ((readLvS t).getD []).length ≤ 24 := by
  simp only [readLvS]
  split
  · rename_i h
    rw [leavesOk] at h
    simp at h
    simpa using h.2.1.1
  · simp
theorem own_below {w w' : World} {base : Nat} {v : Value} {n : Nat} {l : List Lf} (h : OwL w base v n l) (hg : w.grownBy w' v.ownBlock) (hb : base ≤ w.heap.size) : Below base w w' :=
  Below.grown (Below.refl _ _) hg hb (fun k hk => (World.ownsRow.lt h.2 k hk).1)

set_option maxRecDepth 100000 in
set_option maxHeartbeats 800000 in
theorem walk (s : ByteArray) (w : World) (w0 : s.size ≤ maxLen) :
    Calls Try.prog 5 #[.string s] w fun e w' => e = .returned (.bool true) ∧ Below w.heap.size w w' := by
  by_cases hs : (s.size : Int) ≤ 1048576
  · have hs' : (s.size : Int) ≤ 1000000000 := by omega
    have hn := readLvS_len s.data.toList
    obtain ⟨o, ho⟩ : ∃ o, readLvS s.data.toList = o := ⟨_, rfl⟩
    rw [ho] at hn
    obtain ⟨l, hl⟩ : ∃ l, o.getD [] = l := ⟨_, rfl⟩
    obtain ⟨n, hnn⟩ : ∃ n, l.length = n := ⟨_, rfl⟩
    obtain ⟨ok, hok⟩ : ∃ ok, o.isSome = ok := ⟨_, rfl⟩
    rw [hl, hnn] at hn
    have h1 : ∀ W, Calls Try.prog 16 #[.string s] W fun e w' => ∃ A c, e = .returned (.tuple #[.slice A n c, .bool ok]) ∧ OwL w' W.heap.size (.slice A n c) n l ∧ Below W.heap.size W w' := fun W => by
      have h := sReadLeaves_any s W hs'
      rw [ho] at h
      rw [← hok, ← hnn, ← hl]; exact h
    have h2 : ∀ W, Calls Try.prog 17 #[.string s] W fun e w' => ∃ A c, e = .returned (.tuple #[.slice A n c, .bool ok]) ∧ OwL w' W.heap.size (.slice A n c) n l ∧ Below W.heap.size W w' := fun W => by
      have h := readLeaves_any s W hs'
      rw [readLv_agree, ho] at h
      rw [← hok, ← hnn, ← hl]; exact h
    clear w0
    have H1 := Lib.hid h1
    have H2 := Lib.hid h2
    have HO := Lib.hid ho
    have HL := Lib.hid hl
    have HN := Lib.hid hnn
    have HOK := Lib.hid hok
    clear h1 h2 ho hl hnn hok
    go_enter Try.func5, Try.ntmps5
    go_wp2_with (fail)
    refine (H1.out _).mono ?_
    rintro e w1 ⟨A, c, rfl, hA, hb1⟩
    have HA := Lib.hid hA
    clear hA
    go_wp2_with (fail)
    refine (H2.out _).mono ?_
    rintro e w2 ⟨B, d, rfl, hB, hb2⟩
    have HB := Lib.hid hB
    have HA2 := Lib.hid (HA.out.rd.next hb2)
    have HA2' := Lib.hid (HA.out.rd.below hb2 (Nat.le_refl _))
    have HF2 := Lib.hid (hb1.trans (hb2.mono hb1.size))
    have hz : w1.heap.size ≤ w2.heap.size := hb2.size
    have hz1 : w.heap.size ≤ w1.heap.size := hb1.size
    clear hB hb1 hb2
    go_wp2_with (fail)
    refine (eqLeafS_same B A n d c l w2 (by omega) HB.out.rd HA2.out).mono ?_
    rintro e w3 ⟨rfl, hb3⟩
    have HB3 := Lib.hid (HB.out.below hb3)
    have HA3 := Lib.hid (HA2'.out.below (hb3.mono hz) (Nat.le_refl _))
    have HF3 := Lib.hid (HF2.out.trans (hb3.mono HF2.out.size))
    have hz3 : w1.heap.size ≤ w3.heap.size := Nat.le_trans hz hb3.size
    clear hb3
    go_wp2_with (fail)
    refine (markLeafS_own B n d w1.heap.size 1 l w3 (by omega) (by omega) HB3.out).mono ?_
    rintro e w4 ⟨rfl, hB4, hg4⟩
    have hb4 := own_below HB3.out hg4 hz3
    have HB4 := Lib.hid hB4
    have HA4 := Lib.hid (HA3.out.below hb4 (Nat.le_refl _))
    have HF4 := Lib.hid (HF3.out.trans (hb4.mono hz1))
    have hz4 : w1.heap.size ≤ w4.heap.size := Nat.le_trans hz3 hb4.size
    clear hb4 hB4 hg4
    go_wp2_with (fail)
    refine (heldLeafS_any B n d 1 w4 (by omega) (by omega) HB4.out.rd).mono ?_
    rintro e w5 ⟨rfl, hb5⟩
    have HB5 := Lib.hid (HB4.out.below hb5)
    have HA5 := Lib.hid (HA4.out.below (hb5.mono hz4) (Nat.le_refl _))
    have HF5 := Lib.hid (HF4.out.trans (hb5.mono HF4.out.size))
    have hz5 : w1.heap.size ≤ w5.heap.size := Nat.le_trans hz4 hb5.size
    clear hb5
    go_wp2_with (fail)
    refine (H2.out _).mono ?_
    rintro e w6 ⟨D, q, rfl, hD, hb6⟩
    have HD := Lib.hid hD
    have HB6 := Lib.hid (HB5.out.below hb6)
    have HA6 := Lib.hid ((HA5.out.below (hb6.mono hz5) (Nat.le_refl _)).more (Nat.le_trans hz5 hb6.size))
    have HF6 := Lib.hid (HF5.out.trans (hb6.mono HF5.out.size))
    have hz6 : w1.heap.size ≤ w6.heap.size := Nat.le_trans hz5 hb6.size
    clear hD hb6
    go_wp2_with (fail)
    refine (eqLeafS_same D A n q c l w6 (by omega) HD.out.rd HA6.out).mono ?_
    rintro e w7 ⟨rfl, hb7⟩
    have HB7 := Lib.hid (HB6.out.below hb7)
    have HF7 := Lib.hid (HF6.out.trans (hb7.mono HF6.out.size))
    clear hb7
    go_wp2_with (fail)
    refine (heldLeafS_any B n d 1 w7 (by omega) (by omega) HB7.out.rd).mono ?_
    rintro e w8 ⟨rfl, hb8⟩
    have HF8 := Lib.hid (HF7.out.trans (hb8.mono HF7.out.size))
    clear hb8
    go_wp2
    go_ret
    exact ⟨rfl, HF8.out⟩
  · go_enter Try.func5, Try.ntmps5
    go_wp2
    go_ret
    exact ⟨rfl, Below.refl _ _⟩

/-! ### the row's step -/
set_option maxRecDepth 100000 in
theorem lifted (os : Os) (started : os.Started) (H : Type) (enc : TypeId × Value → H) :
    ReturnsInHanded {} Try.checked os 5 .any (Rows.fnExactReadLeavesSpec.pre6 enc Try.prog Try.f5 Rows.fnExactReadLeavesRow.domain false) (Rows.fnExactReadLeavesSpec.post enc Try.prog Try.f5 false true false false) := by
  refine returnsInHanded_of_change (C := Try.checked) own started (by kernel_rfl) Try.func5
    (ChangeSpec.witness6 (enc := enc) (C := Try.checked) false ⟨#[], #[.string ByteArray.empty], []⟩ 8 (by kernel_rfl) (by kernel_rfl) (by kernel_rfl) (by kernel_rfl)) ?_
  intro W base args ds gs before hval0 hW hcnd _
  have hval : ∀ (j : Nat) t v, Try.f5.params[j]? = some t → args[j]? = some v → Value.okWide Try.prog W .any base t v := hval0
  have hW' := hW
  obtain ⟨p, q, hA0, hV, rfl, hfz, hnd⟩ := hW
  have hA : DataW.TrodAll enc Try.prog W 0 (fun _ => true) true Try.f5.params.toList args.toList ds p := hA0
  rw [Try.params5] at hA hval
  obtain ⟨v0, vs0, d0, ds0, p0, q0, hargs, rfl, rfl, h0, r0⟩ := trodAll_cons hA
  obtain ⟨rfl, rfl, rfl⟩ := trodAll_nil r0
  obtain rfl : args = #[v0] := by cases args; simp_all
  obtain ⟨rfl, rfl⟩ := trodVars_none hV
  obtain ⟨a0, rfl, rfl, rfl, w0⟩ := open_string Try.underlying9 (hval 0 9 v0 rfl rfl) h0
  clear hA0 hval0
  simp only [List.append_nil] at hW'
  refine (walk a0 W w0).mono fun e W' ⟨he, bel⟩ => ?_
  subst he
  exact ⟨_, rfl, _, _, _, [], _, [], hW', trodAll_mk1 (shut_bool Try.underlying4 _), (trodAll_cons_mk (shut_string Try.underlying9 w0) trodAll_mk0), rfl, bel.frame _, fun h => by cases h⟩

theorem over : Rows.fnExactReadLeavesRow.holds Try.pinned (OpenSpec.ofChange Rows.fnExactReadLeavesSpec) :=
  OpenClaim.holds_of_wide 5 Try.f5 rfl rfl rfl rfl rfl rfl rfl ⟨rfl, rfl, rfl, rfl, rfl⟩ rfl rfl rfl rfl rfl (by kernel_rfl) Try.func5 (by kernel_rfl)
    (of_decide_eq_true (by kernel_rfl)) (by unfold Func.isWrapper; first | (rw [if_pos (by decide +kernel)]; kernel_rfl) | (rw [if_neg (by decide +kernel)]; exact ⟨rfl, rfl⟩))
    (fun os started H enc _ => lifted os started H enc)

/-- The statement. -/
theorem proved : Rows.FnExactReadLeavesSaid := over
#print axioms proved
end Go.Proofs.Ytkdajahiaedoiaa.fnExactReadLeaves
