/- FnExactShowWorld Condition: the tables of words hold what the program's text lays in them. -/
import Derived.Test.YtfgfkhmldlpmkaaGreatDoorShw
import Derived.Test.YtfgfkhmldlpmkaaGreatDoorExS
import Derived.Test.YtfgfkhmldlpmkaaGreatDoorExO
import Derived.Test.YtfgfkhmldlpmkaaGreatDoorExE
import Derived.Test.YtfgfkhmldlpmkaaGreatDoorExK
import Derived.Test.YtfgfkhmldlpmkaaGreatDoorShp
import Derived.Test.YtfgfkhmldlpmkaaGreatDoorShell
import Derived.Test.YtfgfkhmldlpmkaaGreatDoorRows
import Derived.Test.YtfgfkhmldlpmkaaGreatDoorCards
import Derived.Test.YtfgfkhmldlpmkaaGreatDoorTie
import Derived.ProofKit
import Derived.OpenShut
import Derived.OpenVars
import Derived.ShutString
import Derived.ChangeOld
import Derived.ChangeSlices
import Derived.ChangeVars
import Derived.Below
import Derived.Lib.LaidTab
import Derived.LaidMore
import Derived.Stop.LaidErr
import Derived.MakeChecks
import Derived.SevenTiedAt
namespace Go.Proofs.YtfgfkhmldlpmkaaGreatDoor.fnExactShowWorld
open Go.ChangeShapes Go.WideShapes Go.ChangeAt Go.RowKit Pl
open Go.ChangeMaps (open_string shut_string)
set_option linter.unusedVariables false
set_option linter.unusedSimpArgs false

theorem own : ownKnob Tryz.prog.godebug = none := by kernel_rfl
theorem laidOut : laidOutB Tryz.prog = true := by kernel_rfl
section
theorem alike (e : List T) (q : Fits 1048576 sh_World e) : ∃ b : Bs, CT Tryz.prog 5 [] [.agg e] (.str b) [] ∧ CT Tryz.prog 7 [] [.agg e] (.str b) [] ∧ True := alike_ShowWorld e q
attribute [local irreducible] CondB CallP LoopW AnsP LeP
set_option maxRecDepth 100000 in
set_option maxHeartbeats 8000000 in
theorem c_law (e0 : List T) (f0 : Fits maxLen sh_World e0) : CT Tryz.prog 3 [] [.agg e0] (.bool true) [] := by
  have f0_ := f0
  obtain ⟨z0_0, z1_0, z2_0, z3_0, z4_0, z5_0, he0, -⟩ := fits_World f0_
  subst he0
  clear f0_
  have c0 := c_szWorld [.sl 14 z0_0, .sl 6 z1_0, .sl 2 z2_0, .sl 7 z3_0, .sl 1 z4_0, .sl 1 z5_0] (1048576) f0 (by omega)
  have b0 := szG_le sh_World [.sl 14 z0_0, .sl 6 z1_0, .sl 2 z2_0, .sl 7 z3_0, .sl 1 z4_0, .sl 1 z5_0] (1048576) (by omega)
  have g0 := szG_fits (N := 1048576) sh_World [.sl 14 z0_0, .sl 6 z1_0, .sl 2 z2_0, .sl 7 z3_0, .sl 1 z4_0, .sl 1 z5_0] (1048576) (by omega) f0 (by omega)
  generalize szG sh_World [.sl 14 z0_0, .sl 6 z1_0, .sl 2 z2_0, .sl 7 z3_0, .sl 1 z4_0, .sl 1 z5_0] (1048576) = r0 at c0 b0 g0
  by_cases h0 : r0 < 0
  · clear g0
    refine ct_intro ttE_ok 1 rfl Tryz.func3 rfl rfl rfl ?_
    repeat ((try conv => whnf); first | (refine ccA ([]) (c0) ?_) | (refine stpQ ?_))
    (refine ans_auto (by rfl) ?_ ?_ (by rfl)) <;> repeat' (first | (exact eqA) | (refine And.intro ?_ ?_) | ((fail_if_success (with_reducible (show _ = _))); (show _ = _)))
  have q0 := g0 (by omega)
  clear g0 f0
  have t0 := c_toWorld [.sl 14 z0_0, .sl 6 z1_0, .sl 2 z2_0, .sl 7 z3_0, .sl 1 z4_0, .sl 1 z5_0] q0
  have u0 := c_eqWorld [.sl 14 z0_0, .sl 6 z1_0, .sl 2 z2_0, .sl 7 z3_0, .sl 1 z4_0, .sl 1 z5_0] q0
  obtain ⟨b, s1, s2, -⟩ := alike [.sl 14 z0_0, .sl 6 z1_0, .sl 2 z2_0, .sl 7 z3_0, .sl 1 z4_0, .sl 1 z5_0] q0
  refine ct_intro ttE_ok 1 rfl Tryz.func3 rfl rfl rfl ?_
  repeat ((try conv => whnf); first | (refine ccA ([]) (c0) ?_) | (refine ccA ([]) (t0) ?_) | (refine ccA ([]) (s1) ?_) | (refine ccA ([]) (s2) ?_) | (refine ccA ([]) (u0) ?_) | (refine cb_nf rfl ?_) | (refine And.intro (by kernel_rfl) ?_) | (refine stpQ ?_))
  (refine ans_auto (by rfl) ?_ ?_ (by rfl)) <;> repeat' (first | (exact eqA) | (refine And.intro ?_ ?_) | ((fail_if_success (with_reducible (show _ = _))); (show _ = _)))
end
/-- The walk. -/
theorem walk (c0 : Array Value) (z0 : List T) (w : World) (hg : Gl (cx0 w)) (w0 : Fits maxLen sh_World z0 ∧ RL (fun _ => none) w z0 c0.toList) :
    Calls Tryz.prog 3 #[.agg c0] w fun e w' => e = .returned (.bool true) ∧ Below w.heap.size w w' :=
  ct_walk (c_law z0 w0.1) w hg (vs := [.agg c0]) ⟨_, _, rfl, ⟨c0, rfl, RL.rsl w0.2⟩, rfl⟩

/-! ### the row's step -/
theorem gP : Tryz.prog.globalNamed "internal/strconv.uint64pow10" = some 0 := by kernel_rfl
theorem tP : (Tryz.prog.globals[0]?).map (·.type) = some 244 := by kernel_rfl
theorem uP : Tryz.prog.underlying 244 = some (.array 20 223) := by kernel_rfl
theorem uU : Tryz.prog.underlying 223 = some (.int .u64) := by kernel_rfl
theorem cU : Tryz.prog.cellsOf 223 = 1 := by kernel_rfl
theorem cP : Tryz.prog.cellsOf 244 = 20 := by kernel_rfl
theorem tab_heap {W : World} {name : String} {zs : List Int} {g : Nat} (h : Lib.TabIs Tryz.prog W name .u64 zs) (hg : Tryz.prog.globalNamed name = some g) : ∃ C t fr, W.heap[g]? = some (.cells C t fr) ∧ C.toList = zs.map fun z => Value.int .u64 z := by
  unfold Lib.TabIs World.var? at h
  rw [hg] at h
  simp only [Option.bind_some] at h
  cases hh : W.heap[g]? with
  | none => rw [hh] at h; cases h
  | some o =>
    rw [hh] at h
    cases o with
    | cells C t fr => exact ⟨C, t, fr, rfl, by have := Option.some.inj h; rw [this]⟩
    | _ => cases h
theorem glob_rl (ow : Own) (w : World) : ∀ zs : List Int, RL ow w (zs.map fun z => T.int .u64 z) (zs.map fun z => Value.int .u64 z)
  | [] => by simp [RL]
  | z :: zs => by
    have ih := glob_rl ow w zs
    simp only [List.map_cons, RL] at ih ⊢
    exact ⟨_, _, rfl, by simp [RV], ih⟩
theorem eP : (Rows.laid_internal_strconv_uint64pow10 : DataW Unit) = Lib.tabData .u64 powZ := by kernel_rfl
theorem gl_of {W : World} (hL : laidMet Tryz.prog [("internal/strconv.uint64pow10", Rows.laid_internal_strconv_uint64pow10)] W) : Gl (cx0 W) := by
  rw [eP] at hL
  have hP := Lib.tabIs_of_head gP tP uP uU cU cP hL
  obtain ⟨CP, tp, fp, hp, ep⟩ := tab_heap hP gP
  intro g cs hg
  unfold glob at hg
  cases h1 : Nat.beq g 0 with
  | true =>
    rw [h1] at hg
    have e := Nat.eq_of_beq_eq_true h1
    subst e
    injection hg with hg; subst hg
    exact ⟨rfl, CP, tp, fp, hp, by rw [ep]; exact glob_rl _ _ _⟩
  | false => rw [h1] at hg; cases hg
/-- The door's own heap meets the condition. -/
theorem door_met (os : Os) (args : Array Value) : laidMetH Tryz.prog Rows.fnExactShowWorldRow.laid ((World.doorLaid Tryz.prog 400 os).forCall (fun _ _ => 0) ⟨#[], args, []⟩).memory :=
  laidMetH_of_parts3 (fuel := 8) (laidMet_of_run' 8 (by kernel_rfl) (by kernel_rfl)) (by kernel_rfl) (by kernel_rfl)
set_option maxRecDepth 100000 in
theorem lifted (os : Os) (started : os.Started) (H : Type) (enc : TypeId × Value → H) :
    ReturnsInHanded {} Tryz.checked os 3 .any (fun w args => (Rows.fnExactShowWorldSpec.pre enc Tryz.prog Tryz.f3 [] false w args ∧ laidMetH Tryz.prog Rows.fnExactShowWorldRow.laid w) ∧ sizedMet enc Tryz.prog Tryz.f3 (OpenSpec.ofChange Rows.fnExactShowWorldSpec) false w args) (Rows.fnExactShowWorldSpec.post enc Tryz.prog Tryz.f3 false true false false) := by
  refine returnsInHanded_of_change_and (C := Tryz.checked) (X := fun w _ => laidMetH Tryz.prog Rows.fnExactShowWorldRow.laid w) (fun _ _ _ hh h => h.of_heap hh) own started (by kernel_rfl) Tryz.func3
    (ChangeSpec.witness_shaped (enc := enc) (C := Tryz.checked) (os := os) (X := fun w _ => laidMetH Tryz.prog Rows.fnExactShowWorldRow.laid w) false (World.doorLaid Tryz.prog 400 os) #[.agg #[.slice none 0 0, .slice none 0 0, .slice none 0 0, .slice none 0 0, .slice none 0 0, .slice none 0 0]] 8 rfl (World.shaped_of_RefB (by kernel_rfl) (by kernel_rfl)) (by kernel_rfl) (by kernel_rfl) (by kernel_rfl) (door_met os _)) ?_
  intro W base args ds gs before hval0 hW _ _ hL0 _
  have hL1 : laidMet Tryz.prog Rows.fnExactShowWorldRow.laid W := by rwa [MakeChecks.laidMetH_plain _ _ _ (by kernel_rfl)] at hL0
  have hgl := gl_of (show laidMet Tryz.prog [("internal/strconv.uint64pow10", Rows.laid_internal_strconv_uint64pow10)] W from laidMet.tail (laidMet.tail hL1))
  have hval : ∀ (j : Nat) t v, Tryz.f3.params[j]? = some t → args[j]? = some v → Value.okWide Tryz.prog W .any base t v := hval0
  have hW' := hW
  obtain ⟨p, q, hA0, hV, rfl, hfz, hnd⟩ := hW
  have hA : DataW.TrodAll enc Tryz.prog W 0 (fun _ => true) true Tryz.f3.params.toList args.toList ds p := hA0
  rw [Tryz.params3] at hA hval
  obtain ⟨v0, vs0, d0, ds0, p0, q0, hargs, rfl, rfl, h0, r0⟩ := trodAll_cons hA
  obtain ⟨rfl, rfl, rfl⟩ := trodAll_nil r0
  obtain rfl : args = #[v0] := by cases args; simp_all
  obtain ⟨rfl, rfl⟩ := trodVars_none hV
  obtain ⟨c0, rfl, _⟩ := okWide_struct Tryz.underlying29 (hval 0 29 v0 rfl rfl)
  have k0 := h0
  have lt0 : ∀ x ∈ p0, x.block < W.heap.size := by obtain ⟨m, hm⟩ := k0; exact DataW.trod_lt m _ _ _ hm
  obtain ⟨z0, w0⟩ : ∃ ts, Fits maxLen sh_World ts ∧ RL (fun _ => none) W ts c0.toList := by
    obtain ⟨fuel, hf⟩ := h0
    exact trod_fit fuel _ _ _ _ tok_World hf
  clear hA0 hval0
  refine (walk c0 z0 W hgl w0).mono fun e W' ⟨he, bel⟩ => ?_
  subst he
  exact ⟨_, rfl, _, _, _, [], _, [], hW', trodAll_mk1 (shut_bool Tryz.underlying4 _), (trodAll_cons_mk (Below.trod laidOut (by kernel_rfl) (of_decide_eq_true (by kernel_rfl)) k0 bel lt0) trodAll_mk0), rfl, bel.frame _, fun h => by cases h⟩

theorem over : Rows.fnExactShowWorldRow.holds Tryz.pinned (OpenSpec.ofChange Rows.fnExactShowWorldSpec) :=
  OpenClaim.holds_of_wide 3 Tryz.f3 rfl rfl rfl rfl rfl rfl rfl ⟨rfl, rfl, rfl, rfl, rfl⟩ rfl rfl rfl rfl rfl (by kernel_rfl) Tryz.func3 (by kernel_rfl)
    (of_decide_eq_true (by kernel_rfl)) (by unfold Func.isWrapper; first | (rw [if_pos (by decide +kernel)]; kernel_rfl) | (rw [if_neg (by decide +kernel)]; exact ⟨rfl, rfl⟩))
    (fun os started H enc _ => lifted os started H enc)

/-- The statement: the row's card, tied to the program's text. -/
theorem proved : Rows.FnExactShowWorldCardSaid :=
  Claim7.holds_tied_plain_at .later [] [.data, .data, .data] true Rows.fnExactShowWorldCard.stood.harness false
    over (fun _ h => by cases h) (by kernel_rfl) (fun _ h => by cases h) fnExactShowWorld_row_tie rfl ⟨rfl, rfl⟩ (by kernel_rfl) rfl
    (fun f fn hf hfn => by
      obtain rfl : f = 3 := Option.some.inj ((show Tryz.prog.funcNamed "loop.example/g00284/laws.FnExactShowWorld" = some 3 by kernel_rfl).symm.trans hf) |>.symm
      obtain rfl : fn = Tryz.f3 := (Option.some.inj (Tryz.func3.symm.trans hfn)).symm
      exact ⟨by kernel_rfl, fun j t ht => by
        rw [Tryz.params3] at ht
        have hm := Array.mem_of_getElem? ht
        have hall : (Tryz.f3.params.all fun u => !Tryz.prog.wantsStandIn u) = true := by kernel_rfl
        rw [Tryz.params3] at hall
        have := Array.all_eq_true_iff_forall_mem.1 hall t hm
        exact (show Tryz.prog.wantsStandIn t = false by simpa using this)⟩)
    (by kernel_rfl)

#print axioms proved
end Go.Proofs.YtfgfkhmldlpmkaaGreatDoor.fnExactShowWorld
