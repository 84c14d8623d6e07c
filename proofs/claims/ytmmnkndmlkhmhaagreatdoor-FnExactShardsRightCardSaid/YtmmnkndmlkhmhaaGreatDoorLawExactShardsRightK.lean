/- The types of the exact laws are of their shapes. FnExactShardsRight Condition: the tables of words hold what the program's text lays in them. -/
import Derived.Test.YtmmnkndmlkhmhaaGreatDoorExT
import Derived.Test.YtmmnkndmlkhmhaaGreatDoorRsv
import Derived.Test.YtmmnkndmlkhmhaaGreatDoorExS
import Derived.Test.YtmmnkndmlkhmhaaGreatDoorExO
import Derived.Test.YtmmnkndmlkhmhaaGreatDoorExE
import Derived.Test.YtmmnkndmlkhmhaaGreatDoorShp
import Derived.Test.YtmmnkndmlkhmhaaGreatDoorShell
import Derived.Test.YtmmnkndmlkhmhaaGreatDoorRows
import Derived.Test.YtmmnkndmlkhmhaaGreatDoorCards
import Derived.Test.YtmmnkndmlkhmhaaGreatDoorTie
import Derived.ProofKit
import Derived.OpenShut
import Derived.OpenVars
import Derived.ShutString
import Derived.ChangeOld
import Derived.ChangeSlices
import Derived.ChangeVars
import Derived.Below
import Derived.Lib.LaidTab
import Derived.LaidMore
import Derived.Stop.LaidErr
import Derived.MakeChecks
import Derived.SevenTiedAt
namespace Go.Proofs.YtmmnkndmlkhmhaaGreatDoor
open Go.RowKit Pl
set_option linter.unusedVariables false
set_option linter.unusedSimpArgs false


theorem tok_Leaf : TOk Tryz.prog 324 sh_Leaf := .st Tryz.underlying324 (by kernel_rfl) (.cons (by kernel_rfl) (.str Tryz.underlying9) (.cons (by kernel_rfl) (.str Tryz.underlying9) .nil))
theorem tok_Change : TOk Tryz.prog 238 sh_Change := .st Tryz.underlying238 (by kernel_rfl) (.cons (by kernel_rfl) (.int Tryz.underlying3) (.cons (by kernel_rfl) (.str Tryz.underlying9) (.cons (by kernel_rfl) (.str Tryz.underlying9) .nil)))
theorem tok_Ready : TOk Tryz.prog 49 sh_Ready := .st Tryz.underlying49 (by kernel_rfl) (.cons (by kernel_rfl) (.int Tryz.underlying3) (.cons (by kernel_rfl) (.int Tryz.underlying3) (.cons (by kernel_rfl) (.int Tryz.underlying3) .nil)))
theorem tok_File : TOk Tryz.prog 322 sh_File := .st Tryz.underlying322 (by kernel_rfl) (.cons (by kernel_rfl) (.str Tryz.underlying9) (.cons (by kernel_rfl) (.str Tryz.underlying9) (.cons (by kernel_rfl) (.int Tryz.underlying3) .nil)))
theorem tok_FileS : TOk Tryz.prog 43 (.sl 3 sh_File) := .sl Tryz.underlying43 (by kernel_rfl) rfl (by decide) tok_File
theorem tok_Disk : TOk Tryz.prog 45 sh_Disk := .st Tryz.underlying45 (by kernel_rfl) (.cons (by kernel_rfl) tok_FileS .nil)
theorem tok_Head : TOk Tryz.prog 294 sh_Head := .st Tryz.underlying294 (by kernel_rfl) (.cons (by kernel_rfl) (.int Tryz.underlying3) (.cons (by kernel_rfl) (.int Tryz.underlying3) (.cons (by kernel_rfl) (.str Tryz.underlying9) (.cons (by kernel_rfl) (.str Tryz.underlying9) .nil))))
theorem tok_StringS : TOk Tryz.prog 26 (.sl 1 .str) := .sl Tryz.underlying26 (by kernel_rfl) rfl (by decide) (.str Tryz.underlying9)
theorem tok_Sig : TOk Tryz.prog 278 sh_Sig := .st Tryz.underlying278 (by kernel_rfl) (.cons (by kernel_rfl) (.int Tryz.underlying3) (.cons (by kernel_rfl) tok_StringS (.cons (by kernel_rfl) tok_StringS (.cons (by kernel_rfl) tok_StringS .nil))))
theorem tok_Seal : TOk Tryz.prog 296 sh_Seal := .st Tryz.underlying296 (by kernel_rfl) (.cons (by kernel_rfl) tok_Head (.cons (by kernel_rfl) tok_Sig .nil))
theorem tok_Stamp : TOk Tryz.prog 280 sh_Stamp := .st Tryz.underlying280 (by kernel_rfl) (.cons (by kernel_rfl) (.int Tryz.underlying3) (.cons (by kernel_rfl) tok_Sig .nil))
theorem tok_Pair : TOk Tryz.prog 396 sh_Pair := .st Tryz.underlying396 (by kernel_rfl) (.cons (by kernel_rfl) tok_Seal (.cons (by kernel_rfl) tok_Seal .nil))
theorem tok_LeafS : TOk Tryz.prog 235 (.sl 2 sh_Leaf) := .sl Tryz.underlying235 (by kernel_rfl) rfl (by decide) tok_Leaf
theorem tok_LeafSS : TOk Tryz.prog 46 (.sl 1 (.sl 2 sh_Leaf)) := .sl Tryz.underlying46 (by kernel_rfl) rfl (by decide) tok_LeafS
theorem tok_IntS : TOk Tryz.prog 28 (.sl 1 .int) := .sl Tryz.underlying28 (by kernel_rfl) rfl (by decide) (.int Tryz.underlying3)
theorem tok_ChangeS : TOk Tryz.prog 47 (.sl 3 sh_Change) := .sl Tryz.underlying47 (by kernel_rfl) rfl (by decide) tok_Change
theorem tok_Server : TOk Tryz.prog 51 sh_Server := .st Tryz.underlying51 (by kernel_rfl) (.cons (by kernel_rfl) (.int Tryz.underlying3) (.cons (by kernel_rfl) (.int Tryz.underlying3) (.cons (by kernel_rfl) (.bool Tryz.underlying4) (.cons (by kernel_rfl) tok_Disk (.cons (by kernel_rfl) (.int Tryz.underlying3) (.cons (by kernel_rfl) tok_LeafSS (.cons (by kernel_rfl) tok_IntS (.cons (by kernel_rfl) tok_ChangeS (.cons (by kernel_rfl) tok_Ready .nil)))))))))
theorem tok_SealS : TOk Tryz.prog 96 (.sl 8 sh_Seal) := .sl Tryz.underlying96 (by kernel_rfl) rfl (by decide) tok_Seal
theorem tok_BoolS : TOk Tryz.prog 82 (.sl 1 .bool) := .sl Tryz.underlying82 (by kernel_rfl) rfl (by decide) (.bool Tryz.underlying4)
theorem tok_Coord : TOk Tryz.prog 98 sh_Coord := .st Tryz.underlying98 (by kernel_rfl) (.cons (by kernel_rfl) (.int Tryz.underlying3) (.cons (by kernel_rfl) (.int Tryz.underlying3) (.cons (by kernel_rfl) (.bool Tryz.underlying4) (.cons (by kernel_rfl) tok_Disk (.cons (by kernel_rfl) tok_StringS (.cons (by kernel_rfl) tok_SealS (.cons (by kernel_rfl) tok_IntS (.cons (by kernel_rfl) (.int Tryz.underlying3) (.cons (by kernel_rfl) (.bool Tryz.underlying4) (.cons (by kernel_rfl) tok_StringS (.cons (by kernel_rfl) tok_BoolS .nil)))))))))))
theorem tok_ServerS : TOk Tryz.prog 107 (.sl 11 sh_Server) := .sl Tryz.underlying107 (by kernel_rfl) rfl (by decide) tok_Server
theorem tok_House : TOk Tryz.prog 109 sh_House := .st Tryz.underlying109 (by kernel_rfl) (.cons (by kernel_rfl) tok_Coord (.cons (by kernel_rfl) tok_ServerS (.cons (by kernel_rfl) tok_StringS (.cons (by kernel_rfl) tok_IntS .nil))))
theorem tok_PairS : TOk Tryz.prog 271 (.sl 16 sh_Pair) := .sl Tryz.underlying271 (by kernel_rfl) rfl (by decide) tok_Pair
theorem tok_Auditor : TOk Tryz.prog 273 sh_Auditor := .st Tryz.underlying273 (by kernel_rfl) (.cons (by kernel_rfl) (.int Tryz.underlying3) (.cons (by kernel_rfl) (.bool Tryz.underlying4) (.cons (by kernel_rfl) tok_Disk (.cons (by kernel_rfl) tok_StringS (.cons (by kernel_rfl) tok_SealS (.cons (by kernel_rfl) tok_PairS .nil))))))
theorem tok_Note : TOk Tryz.prog 276 sh_Note := .st Tryz.underlying276 (by kernel_rfl) (.cons (by kernel_rfl) (.int Tryz.underlying3) (.cons (by kernel_rfl) (.str Tryz.underlying9) .nil))
theorem tok_Given : TOk Tryz.prog 282 sh_Given := .st Tryz.underlying282 (by kernel_rfl) (.cons (by kernel_rfl) (.int Tryz.underlying3) (.cons (by kernel_rfl) (.int Tryz.underlying3) (.cons (by kernel_rfl) tok_Stamp .nil)))
theorem tok_HouseS : TOk Tryz.prog 78 (.sl 14 sh_House) := .sl Tryz.underlying78 (by kernel_rfl) rfl (by decide) tok_House
theorem tok_AuditorS : TOk Tryz.prog 79 (.sl 6 sh_Auditor) := .sl Tryz.underlying79 (by kernel_rfl) rfl (by decide) tok_Auditor
theorem tok_NoteS : TOk Tryz.prog 80 (.sl 2 sh_Note) := .sl Tryz.underlying80 (by kernel_rfl) rfl (by decide) tok_Note
theorem tok_GivenS : TOk Tryz.prog 81 (.sl 7 sh_Given) := .sl Tryz.underlying81 (by kernel_rfl) rfl (by decide) tok_Given
theorem tok_World : TOk Tryz.prog 84 sh_World := .st Tryz.underlying84 (by kernel_rfl) (.cons (by kernel_rfl) tok_HouseS (.cons (by kernel_rfl) tok_AuditorS (.cons (by kernel_rfl) tok_NoteS (.cons (by kernel_rfl) tok_GivenS (.cons (by kernel_rfl) tok_BoolS (.cons (by kernel_rfl) tok_IntS .nil))))))
end Go.Proofs.YtmmnkndmlkhmhaaGreatDoor
namespace Go.Proofs.YtmmnkndmlkhmhaaGreatDoor.fnExactShardsRight
open Go.ChangeShapes Go.WideShapes Go.ChangeAt Go.RowKit Pl
open Go.ChangeMaps (open_string shut_string)
set_option linter.unusedVariables false
set_option linter.unusedSimpArgs false

theorem own : ownKnob Tryz.prog.godebug = none := by kernel_rfl
theorem laidOut : laidOutB Tryz.prog = true := by kernel_rfl
section
theorem alike (e : List T) (q : Fits 1048576 sh_House e) : ∃ b, CT Tryz.prog 50 [] [.agg e] (.bool b) [] ∧ CT Tryz.prog 52 [] [.agg e] (.bool b) [] := alike_ShardsRight e q
attribute [local irreducible] CondB CallP LoopW AnsP LeP
set_option maxRecDepth 100000 in
set_option maxHeartbeats 8000000 in
theorem c_law (e0 : List T) (f0 : Fits maxLen sh_House e0) : CT Tryz.prog 8 [] [.agg e0] (.bool true) [] := by
  have f0_ := f0
  obtain ⟨n0_0, n1_0, b2_0, z3_0, z4_0, z5_0, z6_0, n7_0, b8_0, z9_0, z10_0, z11_0, z12_0, z13_0, he0, -⟩ := fits_House f0_
  subst he0
  clear f0_
  have c0 := c_szHouse [.int .i64 n0_0, .int .i64 n1_0, .bool b2_0, .sl 3 z3_0, .sl 1 z4_0, .sl 8 z5_0, .sl 1 z6_0, .int .i64 n7_0, .bool b8_0, .sl 1 z9_0, .sl 1 z10_0, .sl 11 z11_0, .sl 1 z12_0, .sl 1 z13_0] (1048576) f0 (by omega)
  have b0 := szG_le sh_House [.int .i64 n0_0, .int .i64 n1_0, .bool b2_0, .sl 3 z3_0, .sl 1 z4_0, .sl 8 z5_0, .sl 1 z6_0, .int .i64 n7_0, .bool b8_0, .sl 1 z9_0, .sl 1 z10_0, .sl 11 z11_0, .sl 1 z12_0, .sl 1 z13_0] (1048576) (by omega)
  have g0 := szG_fits (N := 1048576) sh_House [.int .i64 n0_0, .int .i64 n1_0, .bool b2_0, .sl 3 z3_0, .sl 1 z4_0, .sl 8 z5_0, .sl 1 z6_0, .int .i64 n7_0, .bool b8_0, .sl 1 z9_0, .sl 1 z10_0, .sl 11 z11_0, .sl 1 z12_0, .sl 1 z13_0] (1048576) (by omega) f0 (by omega)
  generalize szG sh_House [.int .i64 n0_0, .int .i64 n1_0, .bool b2_0, .sl 3 z3_0, .sl 1 z4_0, .sl 8 z5_0, .sl 1 z6_0, .int .i64 n7_0, .bool b8_0, .sl 1 z9_0, .sl 1 z10_0, .sl 11 z11_0, .sl 1 z12_0, .sl 1 z13_0] (1048576) = r0 at c0 b0 g0
  by_cases h0 : r0 < 0
  · clear g0
    refine ct_intro ttE_ok 1 rfl Tryz.func8 rfl rfl rfl ?_
    repeat ((try conv => whnf); first | (refine ccA ([]) (c0) ?_) | (refine stpQ ?_))
    (refine ans_auto (by rfl) ?_ ?_ (by rfl)) <;> repeat' (first | (exact eqA) | (refine And.intro ?_ ?_) | ((fail_if_success (with_reducible (show _ = _))); (show _ = _)))
  have q0 := g0 (by omega)
  clear g0 f0
  have t0 := c_toHouse [.int .i64 n0_0, .int .i64 n1_0, .bool b2_0, .sl 3 z3_0, .sl 1 z4_0, .sl 8 z5_0, .sl 1 z6_0, .int .i64 n7_0, .bool b8_0, .sl 1 z9_0, .sl 1 z10_0, .sl 11 z11_0, .sl 1 z12_0, .sl 1 z13_0] q0
  have u0 := c_eqHouse [.int .i64 n0_0, .int .i64 n1_0, .bool b2_0, .sl 3 z3_0, .sl 1 z4_0, .sl 8 z5_0, .sl 1 z6_0, .int .i64 n7_0, .bool b8_0, .sl 1 z9_0, .sl 1 z10_0, .sl 11 z11_0, .sl 1 z12_0, .sl 1 z13_0] q0
  obtain ⟨b, s1, s2⟩ := alike [.int .i64 n0_0, .int .i64 n1_0, .bool b2_0, .sl 3 z3_0, .sl 1 z4_0, .sl 8 z5_0, .sl 1 z6_0, .int .i64 n7_0, .bool b8_0, .sl 1 z9_0, .sl 1 z10_0, .sl 11 z11_0, .sl 1 z12_0, .sl 1 z13_0] q0
  have e : !(!decide (b = b)) = true := by cases b <;> rfl
  refine ct_intro ttE_ok 1 rfl Tryz.func8 rfl rfl rfl ?_
  repeat ((try conv => whnf); first | (refine ccA ([]) (c0) ?_) | (refine ccA ([]) (t0) ?_) | (refine ccA ([]) (s1) ?_) | (refine ccA ([]) (s2) ?_) | (refine ccA ([]) (u0) ?_) | (refine cb_nf rfl ?_) | (refine And.intro (by kernel_rfl) ?_) | (refine stpQ ?_))
  (refine ans_auto (by rfl) ?_ ?_ (by rfl)) <;> repeat' (first | (exact eqA) | (refine And.intro ?_ ?_) | ((fail_if_success (with_reducible (show _ = _))); (show _ = _)))
end
/-- The walk. -/
theorem walk (c0 : Array Value) (z0 : List T) (w : World) (hg : Gl (cx0 w)) (w0 : Fits maxLen sh_House z0 ∧ RL (fun _ => none) w z0 c0.toList) :
    Calls Tryz.prog 8 #[.agg c0] w fun e w' => e = .returned (.bool true) ∧ Below w.heap.size w w' :=
  ct_walk (c_law z0 w0.1) w hg (vs := [.agg c0]) ⟨_, _, rfl, ⟨c0, rfl, RL.rsl w0.2⟩, rfl⟩

/-! ### the row's step -/
theorem gS : Tryz.prog.globalNamed "loop.example/g00284/impl.startWords" = some 0 := by kernel_rfl
theorem gR : Tryz.prog.globalNamed "loop.example/g00284/impl.roundWords" = some 1 := by kernel_rfl
theorem tS : (Tryz.prog.globals[0]?).map (·.type) = some 262 := by kernel_rfl
theorem tR : (Tryz.prog.globals[1]?).map (·.type) = some 264 := by kernel_rfl
theorem uS : Tryz.prog.underlying 262 = some (.array 8 261) := by kernel_rfl
theorem uR : Tryz.prog.underlying 264 = some (.array 64 261) := by kernel_rfl
theorem uU : Tryz.prog.underlying 261 = some (.int .u32) := by kernel_rfl
theorem cU : Tryz.prog.cellsOf 261 = 1 := by kernel_rfl
theorem cS : Tryz.prog.cellsOf 262 = 8 := by kernel_rfl
theorem cR : Tryz.prog.cellsOf 264 = 64 := by kernel_rfl
theorem tab_heap {W : World} {name : String} {zs : List Int} {g : Nat} (h : Lib.TabIs Tryz.prog W name .u32 zs) (hg : Tryz.prog.globalNamed name = some g) : ∃ C t fr, W.heap[g]? = some (.cells C t fr) ∧ C.toList = zs.map fun z => Value.int .u32 z := by
  unfold Lib.TabIs World.var? at h
  rw [hg] at h
  simp only [Option.bind_some] at h
  cases hh : W.heap[g]? with
  | none => rw [hh] at h; cases h
  | some o =>
    rw [hh] at h
    cases o with
    | cells C t fr => exact ⟨C, t, fr, rfl, by have := Option.some.inj h; rw [this]⟩
    | _ => cases h
theorem glob_rl (ow : Own) (w : World) : ∀ zs : List Int, RL ow w (globT zs) (zs.map fun z => Value.int .u32 z)
  | [] => by simp [globT, RL]
  | z :: zs => by
    have ih := glob_rl ow w zs
    simp only [globT, List.map_cons, RL] at ih ⊢
    exact ⟨_, _, rfl, by simp [RV], ih⟩
theorem gl_of {W : World} (hL : laidMet Tryz.prog [("loop.example/g00284/impl.roundWords", Lib.tabData .u32 roundZ), ("loop.example/g00284/impl.startWords", Lib.tabData .u32 startZ)] W) : Gl (cx0 W) := by
  have hR := Lib.tabIs_of_head gR tR uR uU cU cR hL
  have hS := Lib.tabIs_of_head gS tS uS uU cU cS (laidMet.tail hL)
  obtain ⟨CR, tr, fr, hr, er⟩ := tab_heap hR gR
  obtain ⟨CS, ts, fs, hs, es⟩ := tab_heap hS gS
  intro g cs hg
  unfold glob at hg
  cases h1 : Nat.beq g 0 with
  | true =>
    rw [h1] at hg
    have e := Nat.eq_of_beq_eq_true h1
    subst e
    injection hg with hg; subst hg
    exact ⟨rfl, CS, ts, fs, hs, by rw [es]; exact glob_rl _ _ _⟩
  | false =>
    rw [h1] at hg
    cases h2 : Nat.beq g 1 with
    | true =>
      rw [h2] at hg
      have e := Nat.eq_of_beq_eq_true h2
      subst e
      injection hg with hg; subst hg
      exact ⟨rfl, CR, tr, fr, hr, by rw [er]; exact glob_rl _ _ _⟩
    | false => rw [h2] at hg; cases hg
/-- The door's own heap meets the condition. -/
theorem door_met (os : Os) (args : Array Value) : laidMetH Tryz.prog Rows.fnExactShardsRightRow.laid ((World.doorLaid Tryz.prog 400 os).forCall (fun _ _ => 0) ⟨#[], args, []⟩).memory :=
  laidMetH_of_parts3 (fuel := 8) (laidMet_of_run' 8 (by kernel_rfl) (by kernel_rfl)) (by kernel_rfl) (by kernel_rfl)
set_option maxRecDepth 100000 in
theorem lifted (os : Os) (started : os.Started) (H : Type) (enc : TypeId × Value → H) :
    ReturnsInHanded {} Tryz.checked os 8 .any (fun w args => (Rows.fnExactShardsRightSpec.pre enc Tryz.prog Tryz.f8 [] false w args ∧ laidMetH Tryz.prog Rows.fnExactShardsRightRow.laid w) ∧ sizedMet enc Tryz.prog Tryz.f8 (OpenSpec.ofChange Rows.fnExactShardsRightSpec) false w args) (Rows.fnExactShardsRightSpec.post enc Tryz.prog Tryz.f8 false true false false) := by
  refine returnsInHanded_of_change_and (C := Tryz.checked) (X := fun w _ => laidMetH Tryz.prog Rows.fnExactShardsRightRow.laid w) (fun _ _ _ hh h => h.of_heap hh) own started (by kernel_rfl) Tryz.func8
    (ChangeSpec.witness_shaped (enc := enc) (C := Tryz.checked) (os := os) (X := fun w _ => laidMetH Tryz.prog Rows.fnExactShardsRightRow.laid w) false (World.doorLaid Tryz.prog 400 os) #[.agg #[.int .i64 0, .int .i64 0, .bool false, .slice none 0 0, .slice none 0 0, .slice none 0 0, .slice none 0 0, .int .i64 0, .bool false, .slice none 0 0, .slice none 0 0, .slice none 0 0, .slice none 0 0, .slice none 0 0]] 8 rfl (World.shaped_of_RefB (by kernel_rfl) (by kernel_rfl)) (by kernel_rfl) (by kernel_rfl) (by kernel_rfl) (door_met os _)) ?_
  intro W base args ds gs before hval0 hW _ _ hL0 _
  have hL1 : laidMet Tryz.prog Rows.fnExactShardsRightRow.laid W := by rwa [MakeChecks.laidMetH_plain _ _ _ (by kernel_rfl)] at hL0
  have hgl := gl_of (show laidMet Tryz.prog [("loop.example/g00284/impl.roundWords", Lib.tabData .u32 roundZ), ("loop.example/g00284/impl.startWords", Lib.tabData .u32 startZ)] W from hL1)
  have hval : ∀ (j : Nat) t v, Tryz.f8.params[j]? = some t → args[j]? = some v → Value.okWide Tryz.prog W .any base t v := hval0
  have hW' := hW
  obtain ⟨p, q, hA0, hV, rfl, hfz, hnd⟩ := hW
  have hA : DataW.TrodAll enc Tryz.prog W 0 (fun _ => true) true Tryz.f8.params.toList args.toList ds p := hA0
  rw [Tryz.params8] at hA hval
  obtain ⟨v0, vs0, d0, ds0, p0, q0, hargs, rfl, rfl, h0, r0⟩ := trodAll_cons hA
  obtain ⟨rfl, rfl, rfl⟩ := trodAll_nil r0
  obtain rfl : args = #[v0] := by cases args; simp_all
  have hV0 : DataW.TrodVars enc Tryz.prog W (fun _ => true) Rows.fnExactShardsRightSpec.vars gs q := hV
  obtain ⟨gA, tA, csA, fA, dA, pA, gB, tB, csB, fB, dB, pB, rfl, _, _, _, _, _, _, _, _, _⟩ := trodVars_two hV0
  obtain ⟨c0, rfl, _⟩ := okWide_struct Tryz.underlying109 (hval 0 109 v0 rfl rfl)
  have k0 := h0
  have lt0 : ∀ x ∈ p0, x.block < W.heap.size := by obtain ⟨m, hm⟩ := k0; exact DataW.trod_lt m _ _ _ hm
  obtain ⟨z0, w0⟩ : ∃ ts, Fits maxLen sh_House ts ∧ RL (fun _ => none) W ts c0.toList := by
    obtain ⟨fuel, hf⟩ := h0
    exact trod_fit fuel _ _ _ _ tok_House hf
  clear hA0 hval0 hV
  refine (walk c0 z0 W hgl w0).mono fun e W' ⟨he, bel⟩ => ?_
  subst he
  exact ⟨_, rfl, _, _, _, [], _, q, hW', trodAll_mk1 (shut_bool Tryz.underlying4 _), (trodAll_cons_mk (Below.trod laidOut (by kernel_rfl) (of_decide_eq_true (by kernel_rfl)) k0 bel lt0) trodAll_mk0), Below.trodVars laidOut bel (by kernel_rfl) hV0, bel.frame _, fun h => by cases h⟩

end Go.Proofs.YtmmnkndmlkhmhaaGreatDoor.fnExactShardsRight
