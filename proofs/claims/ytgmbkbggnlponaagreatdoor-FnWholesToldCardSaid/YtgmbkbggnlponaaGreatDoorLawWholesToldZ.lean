/- The statement: FnWholesTold. Condition: the tables of words hold what the program's text lays in them. -/
import Derived.Test.YtgmbkbggnlponaaGreatDoorLawWholesTold
import Derived.Test.YtgmbkbggnlponaaGreatDoorRows
import Derived.Test.YtgmbkbggnlponaaGreatDoorCards
import Derived.Test.YtgmbkbggnlponaaGreatDoorTie
import Derived.ProofKit
import Derived.OpenShut
import Derived.OpenVars
import Derived.ShutString
import Derived.ChangeOld
import Derived.ChangeSlices
import Derived.ChangeVars
import Derived.Below
import Derived.Lib.LaidTab
import Derived.LaidMore
import Derived.Stop.LaidErr
import Derived.MakeChecks
import Derived.SevenTiedAt
namespace Go.Proofs.YtgmbkbggnlponaaGreatDoor.fnWholesTold
set_option linter.unusedVariables false
set_option linter.unusedSimpArgs false
set_option linter.unusedSectionVars false
open Go.ChangeShapes Go.WideShapes Go.ChangeAt Go.RowKit Pl
open Go.ChangeMaps (open_string shut_string)
theorem bb {a b : Bool} (h : a = true) (k : b = true) : (a && b) = true := by rw [h, k]; rfl
theorem j0 : ((Rows.fnWholesToldRow).wf (OpenSpec.ofChange (Rows.fnWholesToldSpec))) = true := by kernel_rfl
theorem j1 : (laidOutB (Tryz.prog)) = true := by kernel_rfl
theorem j2 : (mapsRowed (Tryz.prog)) = true := by kernel_rfl
theorem j3 : ((Tryz.f3).params.all ((Tryz.prog).readableRec ·)) = true := by kernel_rfl
theorem j4 : (namedTie (Tryz.prog) (Rows.fnWholesToldRow).named (Rows.fnWholesToldSpec).vars) = true := by kernel_rfl
theorem j5 : (((Rows.fnWholesToldRow).stops == [])) = true := by kernel_rfl
theorem j6 : (((Tryz.prog).stops == [])) = true := by kernel_rfl
theorem j7 : (((Rows.fnWholesToldRow).knobs == [])) = true := by kernel_rfl
theorem j8 : (((Tryz.prog).stopKnobs == [])) = true := by kernel_rfl
theorem j9 : (((Rows.fnWholesToldRow).inPlace == (Tryz.prog).inPlace (3 : FuncId))) = true := by kernel_rfl
theorem j10 : (((Rows.fnWholesToldRow).unfollowed == (Tryz.prog).unfollowed (3 : FuncId))) = true := by kernel_rfl
theorem j11 : (((Rows.fnWholesToldRow).recurses == (Tryz.prog).recurses (3 : FuncId))) = true := by kernel_rfl
theorem j12 : (((Rows.fnWholesToldRow).named == (Tryz.prog).varsNamed (3 : FuncId))) = true := by kernel_rfl
theorem j13 : (((Rows.fnWholesToldRow).maps == ((Tryz.f3).params.toList ++ (Rows.fnWholesToldSpec).plain.varTypes (Tryz.prog)).any ((Tryz.prog).mapsRec ·))) = true := by kernel_rfl
theorem j14 : (((Rows.fnWholesToldRow).ifaces == ((Tryz.f3).params.toList ++ (Rows.fnWholesToldSpec).plain.varTypes (Tryz.prog)).any ((Tryz.prog).ifacesRec ·))) = true := by kernel_rfl
theorem j15 : (((Rows.fnWholesToldRow).mapsOut == (Tryz.prog).mapsAmong (Tryz.f3).resultTypes.toList)) = true := by kernel_rfl
theorem j16 : (((Rows.fnWholesToldRow).loops == ((Tryz.f3).params.toList ++ (Rows.fnWholesToldSpec).plain.varTypes (Tryz.prog)).any ((Tryz.prog).loopsFrom ·))) = true := by kernel_rfl
theorem j17 : (((Rows.fnWholesToldRow).wideKeys == ((Tryz.f3).params.toList ++ (Rows.fnWholesToldSpec).plain.varTypes (Tryz.prog) ++ (Tryz.f3).resultTypes.toList).any ((Tryz.prog).wideKeysFrom ·))) = true := by kernel_rfl
theorem j18 : ((Rows.fnWholesToldSpec).vars.all ((Tryz.prog).varReadable ·)) = true := by kernel_rfl
theorem j19 : ((Tryz.f3).resultTypes.all (fun t => (Tryz.prog).readableRec t && decide (t < (Tryz.prog).types.size))) = true := by kernel_rfl
theorem j20 : (((Rows.fnWholesToldRow).ifacesOut == (Tryz.f3).resultTypes.toList.any ((Tryz.prog).ifacesRec ·))) = true := by kernel_rfl
theorem j21 : (((Rows.fnWholesToldRow).loopsOut == (Tryz.f3).resultTypes.toList.any ((Tryz.prog).loopsFrom ·))) = true := by kernel_rfl
theorem j22 : (((Rows.fnWholesToldRow).plainKeys == (Tryz.prog).plainKeys)) = true := by kernel_rfl
theorem j23 : ((Rows.fnWholesToldRow).shortTexts.isNone) = true := by kernel_rfl
theorem j24 : ((Tryz.prog).stopsHeard) = true := by kernel_rfl
theorem j25 : ((Tryz.prog).mayEnter) = true := by kernel_rfl
theorem j26 : (((Rows.fnWholesToldRow).lifted == (Tryz.prog).liftsFinal)) = true := by kernel_rfl
theorem j27 : (((Tryz.prog).make == some (Rows.fnWholesToldRow).make)) = true := by kernel_rfl
theorem j28 : (((Rows.fnWholesToldRow).kinds == (if (Rows.fnWholesToldRow).domain.isEmpty then [] else (Tryz.f3).params.toList.map fun t => match (Tryz.prog).underlying t with | some (.int k) => some k | _ => none))) = true := by kernel_rfl
theorem j29 : (((Rows.fnWholesToldRow).pinned == (Rows.fnWholesToldRow).pinnedBy)) = true := by kernel_rfl
theorem j30 : (((Rows.fnWholesToldRow).veiled == ((Tryz.f3).params.toList ++ (Rows.fnWholesToldSpec).plain.varTypes (Tryz.prog) ++ (Tryz.f3).resultTypes.toList).any ((Tryz.prog).veiledRec ·))) = true := by kernel_rfl
theorem j31 : ((Rows.fnWholesToldRow).veiledFits (Tryz.prog) (Tryz.f3).params.toList ((Tryz.f3).params.toList ++ (Rows.fnWholesToldSpec).plain.varTypes (Tryz.prog) ++ (Tryz.f3).resultTypes.toList)) = true := by kernel_rfl
set_option maxRecDepth 100000 in
theorem facts : joinedFacts Tryz.prog 3 Tryz.f3 Rows.fnWholesToldSpec Rows.fnWholesToldRow = true := by
 unfold joinedFacts
 exact (bb (bb (bb (bb (bb (bb (bb (bb (bb (bb (bb (bb (bb (bb (bb (bb (bb (bb (bb (bb (bb (bb (bb (bb (bb (bb (bb (bb (bb (bb (bb j0 j1) j2) j3) j4) j5) j6) j7) j8) j9) j10) j11) j12) j13) j14) j15) j16) j17) j18) j19) j20) j21) j22) j23) j24) j25) j26) j27) j28) j29) j30) j31)
theorem p5 : Tryz.prog.funcNamed Rows.fnWholesToldRow.func = some 3 := by kernel_rfl
theorem p6 : (Tryz.f3).isInstance Tryz.prog Rows.fnWholesToldRow.origin Rows.fnWholesToldRow.targs := of_decide_eq_true (by kernel_rfl)
theorem p7 : (Tryz.f3).isWrapper Tryz.prog Rows.fnWholesToldRow.wrapper Rows.fnWholesToldRow.mainSum := (by unfold Func.isWrapper; first | (rw [if_pos (by decide +kernel)]; kernel_rfl) | (rw [if_neg (by decide +kernel)]; exact ⟨rfl, rfl⟩))
theorem p1 : Rows.fnWholesToldRow.wfByText (OpenSpec.ofChange Rows.fnWholesToldSpec) = true := by kernel_rfl
theorem p2 : Tryz.prog.mainIs = some (Rows.fnWholesToldCard.stood.harness.1, Rows.fnWholesToldCard.stood.harness.2.toList) := by kernel_rfl
theorem p3 : false = Tryz.prog.looks [] := by kernel_rfl
theorem p4 : false = Rows.fnWholesToldRow.goesBy Tryz.prog := by kernel_rfl
theorem p8 : ((Tryz.f3).params.all fun u => !Tryz.prog.wantsStandIn u) = true := by kernel_rfl
theorem over : Rows.fnWholesToldRow.holds Tryz.pinned (OpenSpec.ofChange Rows.fnWholesToldSpec) :=
 OpenClaim.holds_of_wide 3 Tryz.f3 rfl rfl rfl rfl rfl rfl rfl ⟨rfl, rfl, rfl, rfl, rfl⟩ rfl rfl rfl rfl rfl p5 Tryz.func3 facts
  p6 p7
  (fun os started H enc _ => lifted os started H enc)
theorem proved : Rows.FnWholesToldCardSaid :=
 Claim7.holds_tied_plain_at .later [] [.data, .data] true Rows.fnWholesToldCard.stood.harness false
  over (fun _ h => by cases h) p1 (fun _ h => by cases h) fnWholesTold_row_tie rfl ⟨rfl, rfl⟩ p2 rfl
  (fun f fn hf hfn => by
    obtain rfl : f = 3 := Option.some.inj ((show Tryz.prog.funcNamed Rows.fnWholesToldRow.func = some 3 from p5).symm.trans hf) |>.symm
    obtain rfl : fn = Tryz.f3 := (Option.some.inj (Tryz.func3.symm.trans hfn)).symm
    exact ⟨p3, fun j t ht => by
     rw [Tryz.params3] at ht
     have hm := Array.mem_of_getElem? ht
     have hall : (Tryz.f3.params.all fun u => !Tryz.prog.wantsStandIn u) = true := p8
     rw [Tryz.params3] at hall
     have := Array.all_eq_true_iff_forall_mem.1 hall t hm
     exact (show Tryz.prog.wantsStandIn t = false by simpa using this)⟩)
  p4
#print axioms proved
end Go.Proofs.YtgmbkbggnlponaaGreatDoor.fnWholesTold
