/-
  No cell of these rows narrows 'for every input' (looked for: loops, veiled, ifaces, maps, wideKeys, modest, calm, conditions, laid).
  DERIVED. THE GIVEN ROWS OF THIS SEAT. 7 by the template 'for every input the law returns true; each argument reads behind the call as it read before'; 0 by the template 'total and deterministic' (their statements: YtkdajahiaedoiaaTotals.lean).
  GIVEN WITH THE SEED: the statements are not yours to turn. If you find one false, say at which input.
  Laid BY PROGRAM, IN A SANDBOX (cutbox-rows.mjs): the forced cells as the released guide's own fill.sh prints them over the translation 0cc4eaf43cf5933d… (all of the seat's roots in one cut). By AI agents, Wed Nov 11 2026. No macro, syntax, notation, axiom, sorry.
-/
import Derived.Test.YtkdajahiaedoiaaChecked
import GoSem.Claim
import GoSem.ClaimJoined
import GoSem.ClaimMapViews
import Derived.JoinedTies
import Derived.KernelRfl
namespace Go.Proofs.Ytkdajahiaedoiaa
/- THE CELL 'sum', in the pinned program and in every row, IS THE sha256 OF THE DUMP (.gsa) THAT YtkdajahiaedoiaaProg.lean LOADS. Nothing in Lean hashes anything: it is a label: what it is worth is what the hold of that sum in a sandbox is worth. -/
noncomputable def Try.pinned : Pinned := { name := "ytkdajahiaedoiaa", sum := "0cc4eaf43cf5933dee9912caa3a7a6932b75d12c2542c19dff4649438792a075", checked := Try.checked }
namespace Rows
def none {H : Type} : Left H := { results := [], args := [] }

/-- 'laws.FnExactReadChange': WHATEVER THE INPUT: true; the input reads as it did. -/
def fnExactReadChangeSpec : ChangeSpec := { name := "fnExactReadChange", fn := fun _ => fun
  | [d] => { results := [.lit (.bool true)], args := [d] }
  | _ => none }
def fnExactReadChangeRow : OpenClaim := { program := "ytkdajahiaedoiaa", sum := "0cc4eaf43cf5933dee9912caa3a7a6932b75d12c2542c19dff4649438792a075", func := "loop.example/g00284/laws.FnExactReadChange", spec := "fnExactReadChange", apart := false }
def FnExactReadChangeSaid : Prop := fnExactReadChangeRow.holds Try.pinned (OpenSpec.ofChange fnExactReadChangeSpec)

/-- ITS FALSE NEIGHBOUR: 'it returns false'. Refute it at one input. -/
def fnExactReadChangeWrong : ChangeSpec := { name := "fnExactReadChange", fn := fun _ => fun
  | [d] => { results := [.lit (.bool false)], args := [d] }
  | _ => none }
def FnExactReadChangeWrongFalsely : Prop := fnExactReadChangeRow.holds Try.pinned (OpenSpec.ofChange fnExactReadChangeWrong)

/-- 'laws.FnExactReadLetter': WHATEVER THE INPUT: true; the input reads as it did. -/
def fnExactReadLetterSpec : ChangeSpec := { name := "fnExactReadLetter", fn := fun _ => fun
  | [d] => { results := [.lit (.bool true)], args := [d] }
  | _ => none }
def fnExactReadLetterRow : OpenClaim := { program := "ytkdajahiaedoiaa", sum := "0cc4eaf43cf5933dee9912caa3a7a6932b75d12c2542c19dff4649438792a075", func := "loop.example/g00284/laws.FnExactReadLetter", spec := "fnExactReadLetter", apart := false }
def FnExactReadLetterSaid : Prop := fnExactReadLetterRow.holds Try.pinned (OpenSpec.ofChange fnExactReadLetterSpec)

/-- ITS FALSE NEIGHBOUR: 'it returns false'. Refute it at one input. -/
def fnExactReadLetterWrong : ChangeSpec := { name := "fnExactReadLetter", fn := fun _ => fun
  | [d] => { results := [.lit (.bool false)], args := [d] }
  | _ => none }
def FnExactReadLetterWrongFalsely : Prop := fnExactReadLetterRow.holds Try.pinned (OpenSpec.ofChange fnExactReadLetterWrong)

/-- 'laws.FnExactReadLeaves': WHATEVER THE INPUT: true; the input reads as it did. -/
def fnExactReadLeavesSpec : ChangeSpec := { name := "fnExactReadLeaves", fn := fun _ => fun
  | [d] => { results := [.lit (.bool true)], args := [d] }
  | _ => none }
def fnExactReadLeavesRow : OpenClaim := { program := "ytkdajahiaedoiaa", sum := "0cc4eaf43cf5933dee9912caa3a7a6932b75d12c2542c19dff4649438792a075", func := "loop.example/g00284/laws.FnExactReadLeaves", spec := "fnExactReadLeaves", apart := false }
def FnExactReadLeavesSaid : Prop := fnExactReadLeavesRow.holds Try.pinned (OpenSpec.ofChange fnExactReadLeavesSpec)

/-- ITS FALSE NEIGHBOUR: 'it returns false'. Refute it at one input. -/
def fnExactReadLeavesWrong : ChangeSpec := { name := "fnExactReadLeaves", fn := fun _ => fun
  | [d] => { results := [.lit (.bool false)], args := [d] }
  | _ => none }
def FnExactReadLeavesWrongFalsely : Prop := fnExactReadLeavesRow.holds Try.pinned (OpenSpec.ofChange fnExactReadLeavesWrong)

/-- 'laws.FnLeaves': WHATEVER THE INPUT: true; the input reads as it did. -/
def fnLeavesSpec : ChangeSpec := { name := "fnLeaves", fn := fun _ => fun
  | [d] => { results := [.lit (.bool true)], args := [d] }
  | _ => none }
def fnLeavesRow : OpenClaim := { program := "ytkdajahiaedoiaa", sum := "0cc4eaf43cf5933dee9912caa3a7a6932b75d12c2542c19dff4649438792a075", func := "loop.example/g00284/laws.FnLeaves", spec := "fnLeaves", apart := false }
def FnLeavesSaid : Prop := fnLeavesRow.holds Try.pinned (OpenSpec.ofChange fnLeavesSpec)

/-- ITS FALSE NEIGHBOUR: 'it returns false'. Refute it at one input. -/
def fnLeavesWrong : ChangeSpec := { name := "fnLeaves", fn := fun _ => fun
  | [d] => { results := [.lit (.bool false)], args := [d] }
  | _ => none }
def FnLeavesWrongFalsely : Prop := fnLeavesRow.holds Try.pinned (OpenSpec.ofChange fnLeavesWrong)

/-- 'laws.FnExactReadProof': WHATEVER THE INPUT: true; the input reads as it did. -/
def fnExactReadProofSpec : ChangeSpec := { name := "fnExactReadProof", fn := fun _ => fun
  | [d1, d2] => { results := [.lit (.bool true)], args := [d1, d2] }
  | _ => none }
def fnExactReadProofRow : OpenClaim := { program := "ytkdajahiaedoiaa", sum := "0cc4eaf43cf5933dee9912caa3a7a6932b75d12c2542c19dff4649438792a075", func := "loop.example/g00284/laws.FnExactReadProof", spec := "fnExactReadProof", apart := false }
def FnExactReadProofSaid : Prop := fnExactReadProofRow.holds Try.pinned (OpenSpec.ofChange fnExactReadProofSpec)

/-- ITS FALSE NEIGHBOUR: 'it returns false'. Refute it at one input. -/
def fnExactReadProofWrong : ChangeSpec := { name := "fnExactReadProof", fn := fun _ => fun
  | [d1, d2] => { results := [.lit (.bool false)], args := [d1, d2] }
  | _ => none }
def FnExactReadProofWrongFalsely : Prop := fnExactReadProofRow.holds Try.pinned (OpenSpec.ofChange fnExactReadProofWrong)

/-- 'laws.FnLetters': WHATEVER THE INPUT: true; the input reads as it did. -/
def fnLettersSpec : ChangeSpec := { name := "fnLetters", fn := fun _ => fun
  | [d] => { results := [.lit (.bool true)], args := [d] }
  | _ => none }
def fnLettersRow : OpenClaim := { program := "ytkdajahiaedoiaa", sum := "0cc4eaf43cf5933dee9912caa3a7a6932b75d12c2542c19dff4649438792a075", func := "loop.example/g00284/laws.FnLetters", spec := "fnLetters", apart := false }
def FnLettersSaid : Prop := fnLettersRow.holds Try.pinned (OpenSpec.ofChange fnLettersSpec)

/-- ITS FALSE NEIGHBOUR: 'it returns false'. Refute it at one input. -/
def fnLettersWrong : ChangeSpec := { name := "fnLetters", fn := fun _ => fun
  | [d] => { results := [.lit (.bool false)], args := [d] }
  | _ => none }
def FnLettersWrongFalsely : Prop := fnLettersRow.holds Try.pinned (OpenSpec.ofChange fnLettersWrong)

/-- 'laws.FnChanges': WHATEVER THE INPUT: true; the input reads as it did. -/
def fnChangesSpec : ChangeSpec := { name := "fnChanges", fn := fun _ => fun
  | [d] => { results := [.lit (.bool true)], args := [d] }
  | _ => none }
def fnChangesRow : OpenClaim := { program := "ytkdajahiaedoiaa", sum := "0cc4eaf43cf5933dee9912caa3a7a6932b75d12c2542c19dff4649438792a075", func := "loop.example/g00284/laws.FnChanges", spec := "fnChanges", apart := false }
def FnChangesSaid : Prop := fnChangesRow.holds Try.pinned (OpenSpec.ofChange fnChangesSpec)

/-- ITS FALSE NEIGHBOUR: 'it returns false'. Refute it at one input. -/
def fnChangesWrong : ChangeSpec := { name := "fnChanges", fn := fun _ => fun
  | [d] => { results := [.lit (.bool false)], args := [d] }
  | _ => none }
def FnChangesWrongFalsely : Prop := fnChangesRow.holds Try.pinned (OpenSpec.ofChange fnChangesWrong)

/- THE SECOND FORM. 'bulk': how many values and letters a reading holds, each counted each time it is reached (what is shared counts as often as it is met; a slice's spare places count too). A statement '..UptoSaid' is the law's where the arguments, and the package variables that the reading takes, are together of bulk at most 1048576: NARROWER than '..Said'. Prove '..Said' where nothing that the law and all that it calls make is longer than what came in: it says more and counts as full. Else prove '..UptoSaid'. A law counts once. -/
mutual
def uptoBulk {H : Type} : DataW H → Nat
  | .lit (.string bytes) => bytes.length + 1
  | .lit _ => 1
  | .nil => 1
  | .ptr d => uptoBulk d + 1
  | .slice elems spare => uptoBulkAll elems + uptoBulkAll spare + 1
  | .agg parts => uptoBulkAll parts + 1
  | .iface _ d => uptoBulk d + 1
  | .map entries => uptoBulkEntries entries + 1
  | .held _ => 1
def uptoBulkAll {H : Type} : List (DataW H) → Nat
  | [] => 0
  | d :: r => uptoBulk d + uptoBulkAll r
def uptoBulkEntries {H : Type} : List (Lit × DataW H) → Nat
  | [] => 0
  | x :: r => uptoBulkEntry x + uptoBulkEntries r
def uptoBulkEntry {H : Type} : Lit × DataW H → Nat
  | (.string bytes, d) => bytes.length + uptoBulk d + 1
  | (_, d) => uptoBulk d + 1
 end
def uptoSmall : (H : Type) → List (DataW H) → Bool := fun _ ds => decide (uptoBulkAll ds ≤ 1048576)
def OpenSpec.upto (s : _root_.Go.ChangeSpec) : _root_.Go.OpenSpec := { _root_.Go.OpenSpec.ofChange s with cond := some uptoSmall }

/-- 'laws.FnExactReadChange', WHERE WHAT IT READS IS OF BULK AT MOST 1048576: true; the input reads as it did. -/
def fnExactReadChangeUptoRow : OpenClaim := { program := "ytkdajahiaedoiaa", sum := "0cc4eaf43cf5933dee9912caa3a7a6932b75d12c2542c19dff4649438792a075", func := "loop.example/g00284/laws.FnExactReadChange", spec := "fnExactReadChange", apart := false, narrowed := true }
def FnExactReadChangeUptoSaid : Prop := fnExactReadChangeUptoRow.holds Try.pinned (OpenSpec.upto fnExactReadChangeSpec)

/-- 'laws.FnExactReadLetter', WHERE WHAT IT READS IS OF BULK AT MOST 1048576: true; the input reads as it did. -/
def fnExactReadLetterUptoRow : OpenClaim := { program := "ytkdajahiaedoiaa", sum := "0cc4eaf43cf5933dee9912caa3a7a6932b75d12c2542c19dff4649438792a075", func := "loop.example/g00284/laws.FnExactReadLetter", spec := "fnExactReadLetter", apart := false, narrowed := true }
def FnExactReadLetterUptoSaid : Prop := fnExactReadLetterUptoRow.holds Try.pinned (OpenSpec.upto fnExactReadLetterSpec)

/-- 'laws.FnExactReadLeaves', WHERE WHAT IT READS IS OF BULK AT MOST 1048576: true; the input reads as it did. -/
def fnExactReadLeavesUptoRow : OpenClaim := { program := "ytkdajahiaedoiaa", sum := "0cc4eaf43cf5933dee9912caa3a7a6932b75d12c2542c19dff4649438792a075", func := "loop.example/g00284/laws.FnExactReadLeaves", spec := "fnExactReadLeaves", apart := false, narrowed := true }
def FnExactReadLeavesUptoSaid : Prop := fnExactReadLeavesUptoRow.holds Try.pinned (OpenSpec.upto fnExactReadLeavesSpec)

/-- 'laws.FnLeaves', WHERE WHAT IT READS IS OF BULK AT MOST 1048576: true; the input reads as it did. -/
def fnLeavesUptoRow : OpenClaim := { program := "ytkdajahiaedoiaa", sum := "0cc4eaf43cf5933dee9912caa3a7a6932b75d12c2542c19dff4649438792a075", func := "loop.example/g00284/laws.FnLeaves", spec := "fnLeaves", apart := false, narrowed := true }
def FnLeavesUptoSaid : Prop := fnLeavesUptoRow.holds Try.pinned (OpenSpec.upto fnLeavesSpec)

/-- 'laws.FnExactReadProof', WHERE WHAT IT READS IS OF BULK AT MOST 1048576: true; the input reads as it did. -/
def fnExactReadProofUptoRow : OpenClaim := { program := "ytkdajahiaedoiaa", sum := "0cc4eaf43cf5933dee9912caa3a7a6932b75d12c2542c19dff4649438792a075", func := "loop.example/g00284/laws.FnExactReadProof", spec := "fnExactReadProof", apart := false, narrowed := true }
def FnExactReadProofUptoSaid : Prop := fnExactReadProofUptoRow.holds Try.pinned (OpenSpec.upto fnExactReadProofSpec)

/-- 'laws.FnLetters', WHERE WHAT IT READS IS OF BULK AT MOST 1048576: true; the input reads as it did. -/
def fnLettersUptoRow : OpenClaim := { program := "ytkdajahiaedoiaa", sum := "0cc4eaf43cf5933dee9912caa3a7a6932b75d12c2542c19dff4649438792a075", func := "loop.example/g00284/laws.FnLetters", spec := "fnLetters", apart := false, narrowed := true }
def FnLettersUptoSaid : Prop := fnLettersUptoRow.holds Try.pinned (OpenSpec.upto fnLettersSpec)

/-- 'laws.FnChanges', WHERE WHAT IT READS IS OF BULK AT MOST 1048576: true; the input reads as it did. -/
def fnChangesUptoRow : OpenClaim := { program := "ytkdajahiaedoiaa", sum := "0cc4eaf43cf5933dee9912caa3a7a6932b75d12c2542c19dff4649438792a075", func := "loop.example/g00284/laws.FnChanges", spec := "fnChanges", apart := false, narrowed := true }
def FnChangesUptoSaid : Prop := fnChangesUptoRow.holds Try.pinned (OpenSpec.upto fnChangesSpec)

end Rows
end Go.Proofs.Ytkdajahiaedoiaa
