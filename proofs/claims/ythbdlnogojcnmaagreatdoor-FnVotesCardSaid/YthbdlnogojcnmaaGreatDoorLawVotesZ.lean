/- The statement: FnVotes. Condition: the tables of words hold what the program's text lays in them. -/
import Derived.Test.YthbdlnogojcnmaaGreatDoorLawVotes
import Derived.Test.YthbdlnogojcnmaaGreatDoorRows
import Derived.Test.YthbdlnogojcnmaaGreatDoorCards
import Derived.Test.YthbdlnogojcnmaaGreatDoorTie
import Derived.ProofKit
import Derived.OpenShut
import Derived.OpenVars
import Derived.ShutString
import Derived.ChangeOld
import Derived.ChangeSlices
import Derived.ChangeVars
import Derived.Below
import Derived.Lib.LaidTab
import Derived.LaidMore
import Derived.Stop.LaidErr
import Derived.MakeChecks
import Derived.SevenTiedAt
namespace Go.Proofs.YthbdlnogojcnmaaGreatDoor.fnVotes
set_option linter.unusedVariables false
set_option linter.unusedSimpArgs false
set_option linter.unusedSectionVars false
open Go.ChangeShapes Go.WideShapes Go.ChangeAt Go.RowKit Pl
open Go.ChangeMaps (open_string shut_string)
theorem bb {a b : Bool} (h : a = true) (k : b = true) : (a && b) = true := by rw [h, k]; rfl
theorem j0 : ((Rows.fnVotesRow).wf (OpenSpec.ofChange (Rows.fnVotesSpec))) = true := by kernel_rfl
theorem j1 : (laidOutB (Tryz.prog)) = true := by kernel_rfl
theorem j2 : (mapsRowed (Tryz.prog)) = true := by kernel_rfl
theorem j3 : ((Tryz.f6).params.all ((Tryz.prog).readableRec ·)) = true := by kernel_rfl
theorem j4 : (namedTie (Tryz.prog) (Rows.fnVotesRow).named (Rows.fnVotesSpec).vars) = true := by kernel_rfl
theorem j5 : (((Rows.fnVotesRow).stops == [])) = true := by kernel_rfl
theorem j6 : (((Tryz.prog).stops == [])) = true := by kernel_rfl
theorem j7 : (((Rows.fnVotesRow).knobs == [])) = true := by kernel_rfl
theorem j8 : (((Tryz.prog).stopKnobs == [])) = true := by kernel_rfl
theorem j9 : (((Rows.fnVotesRow).inPlace == (Tryz.prog).inPlace (6 : FuncId))) = true := by kernel_rfl
theorem j10 : (((Rows.fnVotesRow).unfollowed == (Tryz.prog).unfollowed (6 : FuncId))) = true := by kernel_rfl
theorem j11 : (((Rows.fnVotesRow).recurses == (Tryz.prog).recurses (6 : FuncId))) = true := by kernel_rfl
theorem j12 : (((Rows.fnVotesRow).named == (Tryz.prog).varsNamed (6 : FuncId))) = true := by kernel_rfl
theorem j13 : (((Rows.fnVotesRow).maps == ((Tryz.f6).params.toList ++ (Rows.fnVotesSpec).plain.varTypes (Tryz.prog)).any ((Tryz.prog).mapsRec ·))) = true := by kernel_rfl
theorem j14 : (((Rows.fnVotesRow).ifaces == ((Tryz.f6).params.toList ++ (Rows.fnVotesSpec).plain.varTypes (Tryz.prog)).any ((Tryz.prog).ifacesRec ·))) = true := by kernel_rfl
theorem j15 : (((Rows.fnVotesRow).mapsOut == (Tryz.prog).mapsAmong (Tryz.f6).resultTypes.toList)) = true := by kernel_rfl
theorem j16 : (((Rows.fnVotesRow).loops == ((Tryz.f6).params.toList ++ (Rows.fnVotesSpec).plain.varTypes (Tryz.prog)).any ((Tryz.prog).loopsFrom ·))) = true := by kernel_rfl
theorem j17 : (((Rows.fnVotesRow).wideKeys == ((Tryz.f6).params.toList ++ (Rows.fnVotesSpec).plain.varTypes (Tryz.prog) ++ (Tryz.f6).resultTypes.toList).any ((Tryz.prog).wideKeysFrom ·))) = true := by kernel_rfl
theorem j18 : ((Rows.fnVotesSpec).vars.all ((Tryz.prog).varReadable ·)) = true := by kernel_rfl
theorem j19 : ((Tryz.f6).resultTypes.all (fun t => (Tryz.prog).readableRec t && decide (t < (Tryz.prog).types.size))) = true := by kernel_rfl
theorem j20 : (((Rows.fnVotesRow).ifacesOut == (Tryz.f6).resultTypes.toList.any ((Tryz.prog).ifacesRec ·))) = true := by kernel_rfl
theorem j21 : (((Rows.fnVotesRow).loopsOut == (Tryz.f6).resultTypes.toList.any ((Tryz.prog).loopsFrom ·))) = true := by kernel_rfl
theorem j22 : (((Rows.fnVotesRow).plainKeys == (Tryz.prog).plainKeys)) = true := by kernel_rfl
theorem j23 : ((Rows.fnVotesRow).shortTexts.isNone) = true := by kernel_rfl
theorem j24 : ((Tryz.prog).stopsHeard) = true := by kernel_rfl
theorem j25 : ((Tryz.prog).mayEnter) = true := by kernel_rfl
theorem j26 : (((Rows.fnVotesRow).lifted == (Tryz.prog).liftsFinal)) = true := by kernel_rfl
theorem j27 : (((Tryz.prog).make == some (Rows.fnVotesRow).make)) = true := by kernel_rfl
theorem j28 : (((Rows.fnVotesRow).kinds == (if (Rows.fnVotesRow).domain.isEmpty then [] else (Tryz.f6).params.toList.map fun t => match (Tryz.prog).underlying t with | some (.int k) => some k | _ => none))) = true := by kernel_rfl
theorem j29 : (((Rows.fnVotesRow).pinned == (Rows.fnVotesRow).pinnedBy)) = true := by kernel_rfl
theorem j30 : (((Rows.fnVotesRow).veiled == ((Tryz.f6).params.toList ++ (Rows.fnVotesSpec).plain.varTypes (Tryz.prog) ++ (Tryz.f6).resultTypes.toList).any ((Tryz.prog).veiledRec ·))) = true := by kernel_rfl
theorem j31 : ((Rows.fnVotesRow).veiledFits (Tryz.prog) (Tryz.f6).params.toList ((Tryz.f6).params.toList ++ (Rows.fnVotesSpec).plain.varTypes (Tryz.prog) ++ (Tryz.f6).resultTypes.toList)) = true := by kernel_rfl
set_option maxRecDepth 100000 in
theorem facts : joinedFacts Tryz.prog 6 Tryz.f6 Rows.fnVotesSpec Rows.fnVotesRow = true := by
 unfold joinedFacts
 exact (bb (bb (bb (bb (bb (bb (bb (bb (bb (bb (bb (bb (bb (bb (bb (bb (bb (bb (bb (bb (bb (bb (bb (bb (bb (bb (bb (bb (bb (bb (bb j0 j1) j2) j3) j4) j5) j6) j7) j8) j9) j10) j11) j12) j13) j14) j15) j16) j17) j18) j19) j20) j21) j22) j23) j24) j25) j26) j27) j28) j29) j30) j31)
theorem p5 : Tryz.prog.funcNamed Rows.fnVotesRow.func = some 6 := by kernel_rfl
theorem p6 : (Tryz.f6).isInstance Tryz.prog Rows.fnVotesRow.origin Rows.fnVotesRow.targs := of_decide_eq_true (by kernel_rfl)
theorem p7 : (Tryz.f6).isWrapper Tryz.prog Rows.fnVotesRow.wrapper Rows.fnVotesRow.mainSum := (by unfold Func.isWrapper; first | (rw [if_pos (by decide +kernel)]; kernel_rfl) | (rw [if_neg (by decide +kernel)]; exact ⟨rfl, rfl⟩))
theorem p1 : Rows.fnVotesRow.wfByText (OpenSpec.ofChange Rows.fnVotesSpec) = true := by kernel_rfl
theorem p2 : Tryz.prog.mainIs = some (Rows.fnVotesCard.stood.harness.1, Rows.fnVotesCard.stood.harness.2.toList) := by kernel_rfl
theorem p3 : false = Tryz.prog.looks [] := by kernel_rfl
theorem p4 : false = Rows.fnVotesRow.goesBy Tryz.prog := by kernel_rfl
theorem p8 : ((Tryz.f6).params.all fun u => !Tryz.prog.wantsStandIn u) = true := by kernel_rfl
theorem over : Rows.fnVotesRow.holds Tryz.pinned (OpenSpec.ofChange Rows.fnVotesSpec) :=
 OpenClaim.holds_of_wide 6 Tryz.f6 rfl rfl rfl rfl rfl rfl rfl ⟨rfl, rfl, rfl, rfl, rfl⟩ rfl rfl rfl rfl rfl p5 Tryz.func6 facts
  p6 p7
  (fun os started H enc _ => lifted os started H enc)
theorem proved : Rows.FnVotesCardSaid :=
 Claim7.holds_tied_plain_at .later [] [.data, .data] true Rows.fnVotesCard.stood.harness false
  over (fun _ h => by cases h) p1 (fun _ h => by cases h) fnVotes_row_tie rfl ⟨rfl, rfl⟩ p2 rfl
  (fun f fn hf hfn => by
    obtain rfl : f = 6 := Option.some.inj ((show Tryz.prog.funcNamed Rows.fnVotesRow.func = some 6 from p5).symm.trans hf) |>.symm
    obtain rfl : fn = Tryz.f6 := (Option.some.inj (Tryz.func6.symm.trans hfn)).symm
    exact ⟨p3, fun j t ht => by
     rw [Tryz.params6] at ht
     have hm := Array.mem_of_getElem? ht
     have hall : (Tryz.f6.params.all fun u => !Tryz.prog.wantsStandIn u) = true := p8
     rw [Tryz.params6] at hall
     have := Array.all_eq_true_iff_forall_mem.1 hall t hm
     exact (show Tryz.prog.wantsStandIn t = false by simpa using this)⟩)
  p4
#print axioms proved
end Go.Proofs.YthbdlnogojcnmaaGreatDoor.fnVotes
