/-
  NARROWER THAN 'FOR EVERY INPUT', by the rows' own cells (each row's printed sentence says how): FnProofsTold: laid · FnWholesTurned: laid · FnWholes: laid · FnExactServerNew: laid · FnMany: laid · FnExactServerOk: laid.
  DERIVED. THE GIVEN ROWS OF THIS SEAT. 6 by the template 'for every input the law returns true; each argument reads behind the call as it read before'; 0 by the template 'total and deterministic' (their statements: YtigfpjnjjndenaaGreatDoorTotals.lean).
  GIVEN WITH THE SEED: the statements are not yours to turn. If you find one false, say at which input.
  Laid BY PROGRAM, IN A SANDBOX (cutbox-rows.mjs): the forced cells as the released guide's own fill.sh prints them over the translation 9d0f2a76a4f7d9ff… (all of the seat's roots in one cut). By AI agents, Wed Nov 11 2026. No macro, syntax, notation, axiom, sorry.
-/
import Derived.Test.YtigfpjnjjndenaaGreatDoorChecked
import GoSem.Claim
import GoSem.ClaimJoined
import GoSem.ClaimMapViews
import Derived.JoinedTies
import Derived.KernelRfl
namespace Go.Proofs.YtigfpjnjjndenaaGreatDoor
/- THE CELL 'sum', in the pinned program and in every row, IS THE sha256 OF THE DUMP (.gsa) THAT YtigfpjnjjndenaaGreatDoorProg.lean LOADS. Nothing in Lean hashes anything: it is a label: what it is worth is what the hold of that sum in a sandbox is worth. -/
noncomputable def Tryz.pinned : Pinned := { name := "ytigfpjnjjndenaagreatdoor", sum := "9d0f2a76a4f7d9ff4766fe72a93cc6ab39f87ff9fc4351477c4b1c695998a7bc", checked := Tryz.checked }
namespace Rows
def none {H : Type} : Left H := { results := [], args := [] }

/- WHAT THE LISTED PACKAGE-LEVEL VARIABLES READ AS WHEN THE CALL BEGINS. Each datum BY PROGRAM (the guide's laid-datum.mjs) off the statement by which the dump's own 'gosem.cut.vars' lays the variable. In a bare row this is a premise. The card (YtigfpjnjjndenaaGreatDoorCards.lean) ties it to the program's text. -/
def laid_loop_example_g00284_impl_roundWords {H : Type} : DataW H := .agg [.lit (.int .u32 1116352408), .lit (.int .u32 1899447441), .lit (.int .u32 3049323471), .lit (.int .u32 3921009573), .lit (.int .u32 961987163), .lit (.int .u32 1508970993), .lit (.int .u32 2453635748), .lit (.int .u32 2870763221), .lit (.int .u32 3624381080), .lit (.int .u32 310598401), .lit (.int .u32 607225278), .lit (.int .u32 1426881987), .lit (.int .u32 1925078388), .lit (.int .u32 2162078206), .lit (.int .u32 2614888103), .lit (.int .u32 3248222580), .lit (.int .u32 3835390401), .lit (.int .u32 4022224774), .lit (.int .u32 264347078), .lit (.int .u32 604807628), .lit (.int .u32 770255983), .lit (.int .u32 1249150122), .lit (.int .u32 1555081692), .lit (.int .u32 1996064986), .lit (.int .u32 2554220882), .lit (.int .u32 2821834349), .lit (.int .u32 2952996808), .lit (.int .u32 3210313671), .lit (.int .u32 3336571891), .lit (.int .u32 3584528711), .lit (.int .u32 113926993), .lit (.int .u32 338241895), .lit (.int .u32 666307205), .lit (.int .u32 773529912), .lit (.int .u32 1294757372), .lit (.int .u32 1396182291), .lit (.int .u32 1695183700), .lit (.int .u32 1986661051), .lit (.int .u32 2177026350), .lit (.int .u32 2456956037), .lit (.int .u32 2730485921), .lit (.int .u32 2820302411), .lit (.int .u32 3259730800), .lit (.int .u32 3345764771), .lit (.int .u32 3516065817), .lit (.int .u32 3600352804), .lit (.int .u32 4094571909), .lit (.int .u32 275423344), .lit (.int .u32 430227734), .lit (.int .u32 506948616), .lit (.int .u32 659060556), .lit (.int .u32 883997877), .lit (.int .u32 958139571), .lit (.int .u32 1322822218), .lit (.int .u32 1537002063), .lit (.int .u32 1747873779), .lit (.int .u32 1955562222), .lit (.int .u32 2024104815), .lit (.int .u32 2227730452), .lit (.int .u32 2361852424), .lit (.int .u32 2428436474), .lit (.int .u32 2756734187), .lit (.int .u32 3204031479), .lit (.int .u32 3329325298)]
def laid_loop_example_g00284_impl_startWords {H : Type} : DataW H := .agg [.lit (.int .u32 1779033703), .lit (.int .u32 3144134277), .lit (.int .u32 1013904242), .lit (.int .u32 2773480762), .lit (.int .u32 1359893119), .lit (.int .u32 2600822924), .lit (.int .u32 528734635), .lit (.int .u32 1541459225)]

/-- 'laws.FnProofsTold': WHATEVER THE INPUT: true; the input reads as it did. -/
def fnProofsToldSpec : ChangeSpec := { name := "fnProofsTold", vars := ["loop.example/g00284/impl.startWords", "loop.example/g00284/impl.roundWords"], fn := fun _ => fun
  | [d, g1, g2] => { results := [.lit (.bool true)], args := [d], vars := [g1, g2] }
  | _ => none }
def fnProofsToldRow : OpenClaim := { program := "ytigfpjnjjndenaagreatdoor", sum := "9d0f2a76a4f7d9ff4766fe72a93cc6ab39f87ff9fc4351477c4b1c695998a7bc", func := "loop.example/g00284/laws.FnProofsTold", spec := "fnProofsTold", unfollowed := true, recurses := true, named := ["loop.example/g00284/impl.startWords", "loop.example/g00284/impl.roundWords"], apart := false, laid := [("loop.example/g00284/impl.roundWords", laid_loop_example_g00284_impl_roundWords), ("loop.example/g00284/impl.startWords", laid_loop_example_g00284_impl_startWords)] }
def FnProofsToldSaid : Prop := fnProofsToldRow.holds Tryz.pinned (OpenSpec.ofChange fnProofsToldSpec)

/-- ITS FALSE NEIGHBOUR: 'it returns false'. Refute it at one input. -/
def fnProofsToldWrong : ChangeSpec := { name := "fnProofsTold", vars := ["loop.example/g00284/impl.startWords", "loop.example/g00284/impl.roundWords"], fn := fun _ => fun
  | [d, g1, g2] => { results := [.lit (.bool false)], args := [d], vars := [g1, g2] }
  | _ => none }
def FnProofsToldWrongFalsely : Prop := fnProofsToldRow.holds Tryz.pinned (OpenSpec.ofChange fnProofsToldWrong)

/-- 'laws.FnWholesTurned': WHATEVER THE INPUT: true; the input reads as it did. -/
def fnWholesTurnedSpec : ChangeSpec := { name := "fnWholesTurned", vars := ["loop.example/g00284/impl.startWords", "loop.example/g00284/impl.roundWords"], fn := fun _ => fun
  | [d, g1, g2] => { results := [.lit (.bool true)], args := [d], vars := [g1, g2] }
  | _ => none }
def fnWholesTurnedRow : OpenClaim := { program := "ytigfpjnjjndenaagreatdoor", sum := "9d0f2a76a4f7d9ff4766fe72a93cc6ab39f87ff9fc4351477c4b1c695998a7bc", func := "loop.example/g00284/laws.FnWholesTurned", spec := "fnWholesTurned", unfollowed := true, recurses := true, named := ["loop.example/g00284/impl.startWords", "loop.example/g00284/impl.roundWords"], apart := false, laid := [("loop.example/g00284/impl.roundWords", laid_loop_example_g00284_impl_roundWords), ("loop.example/g00284/impl.startWords", laid_loop_example_g00284_impl_startWords)] }
def FnWholesTurnedSaid : Prop := fnWholesTurnedRow.holds Tryz.pinned (OpenSpec.ofChange fnWholesTurnedSpec)

/-- ITS FALSE NEIGHBOUR: 'it returns false'. Refute it at one input. -/
def fnWholesTurnedWrong : ChangeSpec := { name := "fnWholesTurned", vars := ["loop.example/g00284/impl.startWords", "loop.example/g00284/impl.roundWords"], fn := fun _ => fun
  | [d, g1, g2] => { results := [.lit (.bool false)], args := [d], vars := [g1, g2] }
  | _ => none }
def FnWholesTurnedWrongFalsely : Prop := fnWholesTurnedRow.holds Tryz.pinned (OpenSpec.ofChange fnWholesTurnedWrong)

/-- 'laws.FnWholes': WHATEVER THE INPUT: true; the input reads as it did. -/
def fnWholesSpec : ChangeSpec := { name := "fnWholes", vars := ["loop.example/g00284/impl.startWords", "loop.example/g00284/impl.roundWords"], fn := fun _ => fun
  | [d, g1, g2] => { results := [.lit (.bool true)], args := [d], vars := [g1, g2] }
  | _ => none }
def fnWholesRow : OpenClaim := { program := "ytigfpjnjjndenaagreatdoor", sum := "9d0f2a76a4f7d9ff4766fe72a93cc6ab39f87ff9fc4351477c4b1c695998a7bc", func := "loop.example/g00284/laws.FnWholes", spec := "fnWholes", unfollowed := true, recurses := true, named := ["loop.example/g00284/impl.startWords", "loop.example/g00284/impl.roundWords"], apart := false, laid := [("loop.example/g00284/impl.roundWords", laid_loop_example_g00284_impl_roundWords), ("loop.example/g00284/impl.startWords", laid_loop_example_g00284_impl_startWords)] }
def FnWholesSaid : Prop := fnWholesRow.holds Tryz.pinned (OpenSpec.ofChange fnWholesSpec)

/-- ITS FALSE NEIGHBOUR: 'it returns false'. Refute it at one input. -/
def fnWholesWrong : ChangeSpec := { name := "fnWholes", vars := ["loop.example/g00284/impl.startWords", "loop.example/g00284/impl.roundWords"], fn := fun _ => fun
  | [d, g1, g2] => { results := [.lit (.bool false)], args := [d], vars := [g1, g2] }
  | _ => none }
def FnWholesWrongFalsely : Prop := fnWholesRow.holds Tryz.pinned (OpenSpec.ofChange fnWholesWrong)

/-- 'laws.FnExactServerNew': WHATEVER THE INPUT: true; the input reads as it did. -/
def fnExactServerNewSpec : ChangeSpec := { name := "fnExactServerNew", vars := ["loop.example/g00284/impl.startWords", "loop.example/g00284/impl.roundWords"], fn := fun _ => fun
  | [d1, d2, d3, g1, g2] => { results := [.lit (.bool true)], args := [d1, d2, d3], vars := [g1, g2] }
  | _ => none }
def fnExactServerNewRow : OpenClaim := { program := "ytigfpjnjjndenaagreatdoor", sum := "9d0f2a76a4f7d9ff4766fe72a93cc6ab39f87ff9fc4351477c4b1c695998a7bc", func := "loop.example/g00284/laws.FnExactServerNew", spec := "fnExactServerNew", unfollowed := true, recurses := true, named := ["loop.example/g00284/impl.startWords", "loop.example/g00284/impl.roundWords"], apart := false, laid := [("loop.example/g00284/impl.roundWords", laid_loop_example_g00284_impl_roundWords), ("loop.example/g00284/impl.startWords", laid_loop_example_g00284_impl_startWords)] }
def FnExactServerNewSaid : Prop := fnExactServerNewRow.holds Tryz.pinned (OpenSpec.ofChange fnExactServerNewSpec)

/-- ITS FALSE NEIGHBOUR: 'it returns false'. Refute it at one input. -/
def fnExactServerNewWrong : ChangeSpec := { name := "fnExactServerNew", vars := ["loop.example/g00284/impl.startWords", "loop.example/g00284/impl.roundWords"], fn := fun _ => fun
  | [d1, d2, d3, g1, g2] => { results := [.lit (.bool false)], args := [d1, d2, d3], vars := [g1, g2] }
  | _ => none }
def FnExactServerNewWrongFalsely : Prop := fnExactServerNewRow.holds Tryz.pinned (OpenSpec.ofChange fnExactServerNewWrong)

/-- 'laws.FnMany': WHATEVER THE INPUT: true; the input reads as it did. -/
def fnManySpec : ChangeSpec := { name := "fnMany", vars := ["loop.example/g00284/impl.startWords", "loop.example/g00284/impl.roundWords"], fn := fun _ => fun
  | [d, g1, g2] => { results := [.lit (.bool true)], args := [d], vars := [g1, g2] }
  | _ => none }
def fnManyRow : OpenClaim := { program := "ytigfpjnjjndenaagreatdoor", sum := "9d0f2a76a4f7d9ff4766fe72a93cc6ab39f87ff9fc4351477c4b1c695998a7bc", func := "loop.example/g00284/laws.FnMany", spec := "fnMany", unfollowed := true, recurses := true, named := ["loop.example/g00284/impl.startWords", "loop.example/g00284/impl.roundWords"], apart := false, laid := [("loop.example/g00284/impl.roundWords", laid_loop_example_g00284_impl_roundWords), ("loop.example/g00284/impl.startWords", laid_loop_example_g00284_impl_startWords)] }
def FnManySaid : Prop := fnManyRow.holds Tryz.pinned (OpenSpec.ofChange fnManySpec)

/-- ITS FALSE NEIGHBOUR: 'it returns false'. Refute it at one input. -/
def fnManyWrong : ChangeSpec := { name := "fnMany", vars := ["loop.example/g00284/impl.startWords", "loop.example/g00284/impl.roundWords"], fn := fun _ => fun
  | [d, g1, g2] => { results := [.lit (.bool false)], args := [d], vars := [g1, g2] }
  | _ => none }
def FnManyWrongFalsely : Prop := fnManyRow.holds Tryz.pinned (OpenSpec.ofChange fnManyWrong)

/-- 'laws.FnExactServerOk': WHATEVER THE INPUT: true; the input reads as it did. -/
def fnExactServerOkSpec : ChangeSpec := { name := "fnExactServerOk", vars := ["loop.example/g00284/impl.startWords", "loop.example/g00284/impl.roundWords"], fn := fun _ => fun
  | [d, g1, g2] => { results := [.lit (.bool true)], args := [d], vars := [g1, g2] }
  | _ => none }
def fnExactServerOkRow : OpenClaim := { program := "ytigfpjnjjndenaagreatdoor", sum := "9d0f2a76a4f7d9ff4766fe72a93cc6ab39f87ff9fc4351477c4b1c695998a7bc", func := "loop.example/g00284/laws.FnExactServerOk", spec := "fnExactServerOk", unfollowed := true, recurses := true, named := ["loop.example/g00284/impl.startWords", "loop.example/g00284/impl.roundWords"], apart := false, laid := [("loop.example/g00284/impl.roundWords", laid_loop_example_g00284_impl_roundWords), ("loop.example/g00284/impl.startWords", laid_loop_example_g00284_impl_startWords)] }
def FnExactServerOkSaid : Prop := fnExactServerOkRow.holds Tryz.pinned (OpenSpec.ofChange fnExactServerOkSpec)

/-- ITS FALSE NEIGHBOUR: 'it returns false'. Refute it at one input. -/
def fnExactServerOkWrong : ChangeSpec := { name := "fnExactServerOk", vars := ["loop.example/g00284/impl.startWords", "loop.example/g00284/impl.roundWords"], fn := fun _ => fun
  | [d, g1, g2] => { results := [.lit (.bool false)], args := [d], vars := [g1, g2] }
  | _ => none }
def FnExactServerOkWrongFalsely : Prop := fnExactServerOkRow.holds Tryz.pinned (OpenSpec.ofChange fnExactServerOkWrong)

/- THE SECOND FORM. 'bulk': how many values and letters a reading holds, each counted each time it is reached (what is shared counts as often as it is met; a slice's spare places count too). A statement '..UptoSaid' is the law's where the arguments, and the package variables that the reading takes, are together of bulk at most 1048576: NARROWER than '..Said'. Prove '..Said' where nothing that the law and all that it calls make is longer than what came in: it says more and counts as full. Else prove '..UptoSaid'. A law counts once. -/
mutual
def uptoBulk {H : Type} : DataW H → Nat
  | .lit (.string bytes) => bytes.length + 1
  | .lit _ => 1
  | .nil => 1
  | .ptr d => uptoBulk d + 1
  | .slice elems spare => uptoBulkAll elems + uptoBulkAll spare + 1
  | .agg parts => uptoBulkAll parts + 1
  | .iface _ d => uptoBulk d + 1
  | .map entries => uptoBulkEntries entries + 1
  | .held _ => 1
def uptoBulkAll {H : Type} : List (DataW H) → Nat
  | [] => 0
  | d :: r => uptoBulk d + uptoBulkAll r
def uptoBulkEntries {H : Type} : List (Lit × DataW H) → Nat
  | [] => 0
  | x :: r => uptoBulkEntry x + uptoBulkEntries r
def uptoBulkEntry {H : Type} : Lit × DataW H → Nat
  | (.string bytes, d) => bytes.length + uptoBulk d + 1
  | (_, d) => uptoBulk d + 1
 end
def uptoSmall : (H : Type) → List (DataW H) → Bool := fun _ ds => decide (uptoBulkAll ds ≤ 1048576)
def OpenSpec.upto (s : _root_.Go.ChangeSpec) : _root_.Go.OpenSpec := { _root_.Go.OpenSpec.ofChange s with cond := some uptoSmall }

/-- 'laws.FnProofsTold', WHERE WHAT IT READS IS OF BULK AT MOST 1048576: true; the input reads as it did. -/
def fnProofsToldUptoRow : OpenClaim := { program := "ytigfpjnjjndenaagreatdoor", sum := "9d0f2a76a4f7d9ff4766fe72a93cc6ab39f87ff9fc4351477c4b1c695998a7bc", func := "loop.example/g00284/laws.FnProofsTold", spec := "fnProofsTold", unfollowed := true, recurses := true, named := ["loop.example/g00284/impl.startWords", "loop.example/g00284/impl.roundWords"], apart := false, laid := [("loop.example/g00284/impl.roundWords", laid_loop_example_g00284_impl_roundWords), ("loop.example/g00284/impl.startWords", laid_loop_example_g00284_impl_startWords)], narrowed := true }
def FnProofsToldUptoSaid : Prop := fnProofsToldUptoRow.holds Tryz.pinned (OpenSpec.upto fnProofsToldSpec)

/-- 'laws.FnWholesTurned', WHERE WHAT IT READS IS OF BULK AT MOST 1048576: true; the input reads as it did. -/
def fnWholesTurnedUptoRow : OpenClaim := { program := "ytigfpjnjjndenaagreatdoor", sum := "9d0f2a76a4f7d9ff4766fe72a93cc6ab39f87ff9fc4351477c4b1c695998a7bc", func := "loop.example/g00284/laws.FnWholesTurned", spec := "fnWholesTurned", unfollowed := true, recurses := true, named := ["loop.example/g00284/impl.startWords", "loop.example/g00284/impl.roundWords"], apart := false, laid := [("loop.example/g00284/impl.roundWords", laid_loop_example_g00284_impl_roundWords), ("loop.example/g00284/impl.startWords", laid_loop_example_g00284_impl_startWords)], narrowed := true }
def FnWholesTurnedUptoSaid : Prop := fnWholesTurnedUptoRow.holds Tryz.pinned (OpenSpec.upto fnWholesTurnedSpec)

/-- 'laws.FnWholes', WHERE WHAT IT READS IS OF BULK AT MOST 1048576: true; the input reads as it did. -/
def fnWholesUptoRow : OpenClaim := { program := "ytigfpjnjjndenaagreatdoor", sum := "9d0f2a76a4f7d9ff4766fe72a93cc6ab39f87ff9fc4351477c4b1c695998a7bc", func := "loop.example/g00284/laws.FnWholes", spec := "fnWholes", unfollowed := true, recurses := true, named := ["loop.example/g00284/impl.startWords", "loop.example/g00284/impl.roundWords"], apart := false, laid := [("loop.example/g00284/impl.roundWords", laid_loop_example_g00284_impl_roundWords), ("loop.example/g00284/impl.startWords", laid_loop_example_g00284_impl_startWords)], narrowed := true }
def FnWholesUptoSaid : Prop := fnWholesUptoRow.holds Tryz.pinned (OpenSpec.upto fnWholesSpec)

/-- 'laws.FnExactServerNew', WHERE WHAT IT READS IS OF BULK AT MOST 1048576: true; the input reads as it did. -/
def fnExactServerNewUptoRow : OpenClaim := { program := "ytigfpjnjjndenaagreatdoor", sum := "9d0f2a76a4f7d9ff4766fe72a93cc6ab39f87ff9fc4351477c4b1c695998a7bc", func := "loop.example/g00284/laws.FnExactServerNew", spec := "fnExactServerNew", unfollowed := true, recurses := true, named := ["loop.example/g00284/impl.startWords", "loop.example/g00284/impl.roundWords"], apart := false, laid := [("loop.example/g00284/impl.roundWords", laid_loop_example_g00284_impl_roundWords), ("loop.example/g00284/impl.startWords", laid_loop_example_g00284_impl_startWords)], narrowed := true }
def FnExactServerNewUptoSaid : Prop := fnExactServerNewUptoRow.holds Tryz.pinned (OpenSpec.upto fnExactServerNewSpec)

/-- 'laws.FnMany', WHERE WHAT IT READS IS OF BULK AT MOST 1048576: true; the input reads as it did. -/
def fnManyUptoRow : OpenClaim := { program := "ytigfpjnjjndenaagreatdoor", sum := "9d0f2a76a4f7d9ff4766fe72a93cc6ab39f87ff9fc4351477c4b1c695998a7bc", func := "loop.example/g00284/laws.FnMany", spec := "fnMany", unfollowed := true, recurses := true, named := ["loop.example/g00284/impl.startWords", "loop.example/g00284/impl.roundWords"], apart := false, laid := [("loop.example/g00284/impl.roundWords", laid_loop_example_g00284_impl_roundWords), ("loop.example/g00284/impl.startWords", laid_loop_example_g00284_impl_startWords)], narrowed := true }
def FnManyUptoSaid : Prop := fnManyUptoRow.holds Tryz.pinned (OpenSpec.upto fnManySpec)

/-- 'laws.FnExactServerOk', WHERE WHAT IT READS IS OF BULK AT MOST 1048576: true; the input reads as it did. -/
def fnExactServerOkUptoRow : OpenClaim := { program := "ytigfpjnjjndenaagreatdoor", sum := "9d0f2a76a4f7d9ff4766fe72a93cc6ab39f87ff9fc4351477c4b1c695998a7bc", func := "loop.example/g00284/laws.FnExactServerOk", spec := "fnExactServerOk", unfollowed := true, recurses := true, named := ["loop.example/g00284/impl.startWords", "loop.example/g00284/impl.roundWords"], apart := false, laid := [("loop.example/g00284/impl.roundWords", laid_loop_example_g00284_impl_roundWords), ("loop.example/g00284/impl.startWords", laid_loop_example_g00284_impl_startWords)], narrowed := true }
def FnExactServerOkUptoSaid : Prop := fnExactServerOkUptoRow.holds Tryz.pinned (OpenSpec.upto fnExactServerOkSpec)

end Rows
end Go.Proofs.YtigfpjnjjndenaaGreatDoor
