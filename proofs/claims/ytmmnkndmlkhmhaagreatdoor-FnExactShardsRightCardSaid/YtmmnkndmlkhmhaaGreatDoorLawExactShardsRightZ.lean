/- The statement: FnExactShardsRight. Condition: the tables of words hold what the program's text lays in them. -/
import Derived.Test.YtmmnkndmlkhmhaaGreatDoorLawExactShardsRightK
import Derived.Test.YtmmnkndmlkhmhaaGreatDoorRows
import Derived.Test.YtmmnkndmlkhmhaaGreatDoorCards
import Derived.Test.YtmmnkndmlkhmhaaGreatDoorTie
import Derived.ProofKit
import Derived.OpenShut
import Derived.OpenVars
import Derived.ShutString
import Derived.ChangeOld
import Derived.ChangeSlices
import Derived.ChangeVars
import Derived.Below
import Derived.Lib.LaidTab
import Derived.LaidMore
import Derived.Stop.LaidErr
import Derived.MakeChecks
import Derived.SevenTiedAt
namespace Go.Proofs.YtmmnkndmlkhmhaaGreatDoor.fnExactShardsRight
open Go.ChangeShapes Go.WideShapes Go.ChangeAt Go.RowKit Pl
open Go.ChangeMaps (open_string shut_string)
set_option linter.unusedVariables false
set_option linter.unusedSimpArgs false
theorem bb {a b : Bool} (h : a = true) (k : b = true) : (a && b) = true := by rw [h, k]; rfl
theorem j0 : ((Rows.fnExactShardsRightRow).wf (OpenSpec.ofChange (Rows.fnExactShardsRightSpec))) = true := by kernel_rfl
theorem j1 : (laidOutB (Tryz.prog)) = true := by kernel_rfl
theorem j2 : (mapsRowed (Tryz.prog)) = true := by kernel_rfl
theorem j3 : ((Tryz.f8).params.all ((Tryz.prog).readableRec ·)) = true := by kernel_rfl
theorem j4 : (namedTie (Tryz.prog) (Rows.fnExactShardsRightRow).named (Rows.fnExactShardsRightSpec).vars) = true := by kernel_rfl
theorem j5 : (((Rows.fnExactShardsRightRow).stops == [])) = true := by kernel_rfl
theorem j6 : (((Tryz.prog).stops == [])) = true := by kernel_rfl
theorem j7 : (((Rows.fnExactShardsRightRow).knobs == [])) = true := by kernel_rfl
theorem j8 : (((Tryz.prog).stopKnobs == [])) = true := by kernel_rfl
theorem j9 : (((Rows.fnExactShardsRightRow).inPlace == (Tryz.prog).inPlace (8 : FuncId))) = true := by kernel_rfl
theorem j10 : (((Rows.fnExactShardsRightRow).unfollowed == (Tryz.prog).unfollowed (8 : FuncId))) = true := by kernel_rfl
theorem j11 : (((Rows.fnExactShardsRightRow).recurses == (Tryz.prog).recurses (8 : FuncId))) = true := by kernel_rfl
theorem j12 : (((Rows.fnExactShardsRightRow).named == (Tryz.prog).varsNamed (8 : FuncId))) = true := by kernel_rfl
theorem j13 : (((Rows.fnExactShardsRightRow).maps == ((Tryz.f8).params.toList ++ (Rows.fnExactShardsRightSpec).plain.varTypes (Tryz.prog)).any ((Tryz.prog).mapsRec ·))) = true := by kernel_rfl
theorem j14 : (((Rows.fnExactShardsRightRow).ifaces == ((Tryz.f8).params.toList ++ (Rows.fnExactShardsRightSpec).plain.varTypes (Tryz.prog)).any ((Tryz.prog).ifacesRec ·))) = true := by kernel_rfl
theorem j15 : (((Rows.fnExactShardsRightRow).mapsOut == (Tryz.prog).mapsAmong (Tryz.f8).resultTypes.toList)) = true := by kernel_rfl
theorem j16 : (((Rows.fnExactShardsRightRow).loops == ((Tryz.f8).params.toList ++ (Rows.fnExactShardsRightSpec).plain.varTypes (Tryz.prog)).any ((Tryz.prog).loopsFrom ·))) = true := by kernel_rfl
theorem j17 : (((Rows.fnExactShardsRightRow).wideKeys == ((Tryz.f8).params.toList ++ (Rows.fnExactShardsRightSpec).plain.varTypes (Tryz.prog) ++ (Tryz.f8).resultTypes.toList).any ((Tryz.prog).wideKeysFrom ·))) = true := by kernel_rfl
theorem j18 : ((Rows.fnExactShardsRightSpec).vars.all ((Tryz.prog).varReadable ·)) = true := by kernel_rfl
theorem j19 : ((Tryz.f8).resultTypes.all (fun t => (Tryz.prog).readableRec t && decide (t < (Tryz.prog).types.size))) = true := by kernel_rfl
theorem j20 : (((Rows.fnExactShardsRightRow).ifacesOut == (Tryz.f8).resultTypes.toList.any ((Tryz.prog).ifacesRec ·))) = true := by kernel_rfl
theorem j21 : (((Rows.fnExactShardsRightRow).loopsOut == (Tryz.f8).resultTypes.toList.any ((Tryz.prog).loopsFrom ·))) = true := by kernel_rfl
theorem j22 : (((Rows.fnExactShardsRightRow).plainKeys == (Tryz.prog).plainKeys)) = true := by kernel_rfl
theorem j23 : ((Rows.fnExactShardsRightRow).shortTexts.isNone) = true := by kernel_rfl
theorem j24 : ((Tryz.prog).stopsHeard) = true := by kernel_rfl
theorem j25 : ((Tryz.prog).mayEnter) = true := by kernel_rfl
theorem j26 : (((Rows.fnExactShardsRightRow).lifted == (Tryz.prog).liftsFinal)) = true := by kernel_rfl
theorem j27 : (((Tryz.prog).make == some (Rows.fnExactShardsRightRow).make)) = true := by kernel_rfl
theorem j28 : (((Rows.fnExactShardsRightRow).kinds == (if (Rows.fnExactShardsRightRow).domain.isEmpty then [] else (Tryz.f8).params.toList.map fun t => match (Tryz.prog).underlying t with | some (.int k) => some k | _ => none))) = true := by kernel_rfl
theorem j29 : (((Rows.fnExactShardsRightRow).pinned == (Rows.fnExactShardsRightRow).pinnedBy)) = true := by kernel_rfl
theorem j30 : (((Rows.fnExactShardsRightRow).veiled == ((Tryz.f8).params.toList ++ (Rows.fnExactShardsRightSpec).plain.varTypes (Tryz.prog) ++ (Tryz.f8).resultTypes.toList).any ((Tryz.prog).veiledRec ·))) = true := by kernel_rfl
theorem j31 : ((Rows.fnExactShardsRightRow).veiledFits (Tryz.prog) (Tryz.f8).params.toList ((Tryz.f8).params.toList ++ (Rows.fnExactShardsRightSpec).plain.varTypes (Tryz.prog) ++ (Tryz.f8).resultTypes.toList)) = true := by kernel_rfl
set_option maxRecDepth 100000 in
theorem facts : joinedFacts Tryz.prog 8 Tryz.f8 Rows.fnExactShardsRightSpec Rows.fnExactShardsRightRow = true := by
  unfold joinedFacts
  exact (bb (bb (bb (bb (bb (bb (bb (bb (bb (bb (bb (bb (bb (bb (bb (bb (bb (bb (bb (bb (bb (bb (bb (bb (bb (bb (bb (bb (bb (bb (bb j0 j1) j2) j3) j4) j5) j6) j7) j8) j9) j10) j11) j12) j13) j14) j15) j16) j17) j18) j19) j20) j21) j22) j23) j24) j25) j26) j27) j28) j29) j30) j31)
theorem p5 : Tryz.prog.funcNamed Rows.fnExactShardsRightRow.func = some 8 := by kernel_rfl
theorem p6 : (Tryz.f8).isInstance Tryz.prog Rows.fnExactShardsRightRow.origin Rows.fnExactShardsRightRow.targs := of_decide_eq_true (by kernel_rfl)
theorem p7 : (Tryz.f8).isWrapper Tryz.prog Rows.fnExactShardsRightRow.wrapper Rows.fnExactShardsRightRow.mainSum := (by unfold Func.isWrapper; first | (rw [if_pos (by decide +kernel)]; kernel_rfl) | (rw [if_neg (by decide +kernel)]; exact ⟨rfl, rfl⟩))
theorem p1 : Rows.fnExactShardsRightRow.wfByText (OpenSpec.ofChange Rows.fnExactShardsRightSpec) = true := by kernel_rfl
theorem p2 : Tryz.prog.mainIs = some (Rows.fnExactShardsRightCard.stood.harness.1, Rows.fnExactShardsRightCard.stood.harness.2.toList) := by kernel_rfl
theorem p3 : false = Tryz.prog.looks [] := by kernel_rfl
theorem p4 : false = Rows.fnExactShardsRightRow.goesBy Tryz.prog := by kernel_rfl
theorem p8 : ((Tryz.f8).params.all fun u => !Tryz.prog.wantsStandIn u) = true := by kernel_rfl
theorem over : Rows.fnExactShardsRightRow.holds Tryz.pinned (OpenSpec.ofChange Rows.fnExactShardsRightSpec) :=
  OpenClaim.holds_of_wide 8 Tryz.f8 rfl rfl rfl rfl rfl rfl rfl ⟨rfl, rfl, rfl, rfl, rfl⟩ rfl rfl rfl rfl rfl p5 Tryz.func8 facts
    p6 p7
    (fun os started H enc _ => lifted os started H enc)

/-- The statement: the row's card, tied to the program's text. -/
theorem proved : Rows.FnExactShardsRightCardSaid :=
  Claim7.holds_tied_plain_at .later [] [.data, .data] true Rows.fnExactShardsRightCard.stood.harness false
    over (fun _ h => by cases h) p1 (fun _ h => by cases h) fnExactShardsRight_row_tie rfl ⟨rfl, rfl⟩ p2 rfl
    (fun f fn hf hfn => by
      obtain rfl : f = 8 := Option.some.inj ((show Tryz.prog.funcNamed Rows.fnExactShardsRightRow.func = some 8 from p5).symm.trans hf) |>.symm
      obtain rfl : fn = Tryz.f8 := (Option.some.inj (Tryz.func8.symm.trans hfn)).symm
      exact ⟨p3, fun j t ht => by
        rw [Tryz.params8] at ht
        have hm := Array.mem_of_getElem? ht
        have hall : (Tryz.f8.params.all fun u => !Tryz.prog.wantsStandIn u) = true := p8
        rw [Tryz.params8] at hall
        have := Array.all_eq_true_iff_forall_mem.1 hall t hm
        exact (show Tryz.prog.wantsStandIn t = false by simpa using this)⟩)
    p4

#print axioms proved
end Go.Proofs.YtmmnkndmlkhmhaaGreatDoor.fnExactShardsRight
