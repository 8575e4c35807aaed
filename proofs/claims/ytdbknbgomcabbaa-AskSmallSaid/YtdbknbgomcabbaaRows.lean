/-
  No cell of these rows narrows 'for every input' (looked for: loops, veiled, ifaces, maps, wideKeys, modest, calm, conditions, laid).
  DERIVED. THE GIVEN ROWS OF THIS SEAT. 8 by the template 'for every input the law returns true; each argument reads behind the call as it read before'; 0 by the template 'total and deterministic' (their statements: YtdbknbgomcabbaaTotals.lean).
  GIVEN WITH THE SEED: the statements are not yours to turn. If you find one false, say at which input.
  Laid BY PROGRAM, IN A SANDBOX (cutbox-rows.mjs): the forced cells as the released guide's own fill.sh prints them over the translation 52b5caf23c400053… (all of the seat's roots in one cut). By AI agents, Wed Nov 11 2026. No macro, syntax, notation, axiom, sorry.
-/
import Derived.Test.YtdbknbgomcabbaaChecked
import GoSem.Claim
import GoSem.ClaimJoined
import GoSem.ClaimMapViews
import Derived.JoinedTies
import Derived.KernelRfl
namespace Go.Proofs.Ytdbknbgomcabbaa
/- THE CELL 'sum', in the pinned program and in every row, IS THE sha256 OF THE DUMP (.gsa) THAT YtdbknbgomcabbaaProg.lean LOADS. Nothing in Lean hashes anything: it is a label: what it is worth is what the hold of that sum in a sandbox is worth. -/
noncomputable def Try.pinned : Pinned := { name := "ytdbknbgomcabbaa", sum := "52b5caf23c400053c36fc910375effee2f9de914870bb67e28b5241142093f18", checked := Try.checked }
namespace Rows
def none {H : Type} : Left H := { results := [], args := [] }

/-- 'gaugerlaw32.AskTells': WHATEVER THE INPUT: true; the input reads as it did. -/
def askTellsSpec : ChangeSpec := { name := "askTells", fn := fun _ => fun
  | [d1, d2, d3] => { results := [.lit (.bool true)], args := [d1, d2, d3] }
  | _ => none }
def askTellsRow : OpenClaim := { program := "ytdbknbgomcabbaa", sum := "52b5caf23c400053c36fc910375effee2f9de914870bb67e28b5241142093f18", func := "gauger/gaugerlaw32.AskTells", spec := "askTells", unfollowed := true, recurses := true, apart := false }
def AskTellsSaid : Prop := askTellsRow.holds Try.pinned (OpenSpec.ofChange askTellsSpec)

/-- ITS FALSE NEIGHBOUR: 'it returns false'. Refute it at one input. -/
def askTellsWrong : ChangeSpec := { name := "askTells", fn := fun _ => fun
  | [d1, d2, d3] => { results := [.lit (.bool false)], args := [d1, d2, d3] }
  | _ => none }
def AskTellsWrongFalsely : Prop := askTellsRow.holds Try.pinned (OpenSpec.ofChange askTellsWrong)

/-- 'gaugerlaw32.AskSmall': WHATEVER THE INPUT: true; the input reads as it did. -/
def askSmallSpec : ChangeSpec := { name := "askSmall", fn := fun _ => fun
  | [] => { results := [.lit (.bool true)], args := [] }
  | _ => none }
def askSmallRow : OpenClaim := { program := "ytdbknbgomcabbaa", sum := "52b5caf23c400053c36fc910375effee2f9de914870bb67e28b5241142093f18", func := "gauger/gaugerlaw32.AskSmall", spec := "askSmall", unfollowed := true, recurses := true, apart := false }
def AskSmallSaid : Prop := askSmallRow.holds Try.pinned (OpenSpec.ofChange askSmallSpec)

/-- ITS FALSE NEIGHBOUR: 'it returns false'. Refute it at one input. -/
def askSmallWrong : ChangeSpec := { name := "askSmall", fn := fun _ => fun
  | [] => { results := [.lit (.bool false)], args := [] }
  | _ => none }
def AskSmallWrongFalsely : Prop := askSmallRow.holds Try.pinned (OpenSpec.ofChange askSmallWrong)

/-- 'gaugerlaw32.AskOnce': WHATEVER THE INPUT: true; the input reads as it did. -/
def askOnceSpec : ChangeSpec := { name := "askOnce", fn := fun _ => fun
  | [d1, d2, d3] => { results := [.lit (.bool true)], args := [d1, d2, d3] }
  | _ => none }
def askOnceRow : OpenClaim := { program := "ytdbknbgomcabbaa", sum := "52b5caf23c400053c36fc910375effee2f9de914870bb67e28b5241142093f18", func := "gauger/gaugerlaw32.AskOnce", spec := "askOnce", unfollowed := true, recurses := true, apart := false }
def AskOnceSaid : Prop := askOnceRow.holds Try.pinned (OpenSpec.ofChange askOnceSpec)

/-- ITS FALSE NEIGHBOUR: 'it returns false'. Refute it at one input. -/
def askOnceWrong : ChangeSpec := { name := "askOnce", fn := fun _ => fun
  | [d1, d2, d3] => { results := [.lit (.bool false)], args := [d1, d2, d3] }
  | _ => none }
def AskOnceWrongFalsely : Prop := askOnceRow.holds Try.pinned (OpenSpec.ofChange askOnceWrong)

/-- 'gaugerlaw32.AskSums': WHATEVER THE INPUT: true; the input reads as it did. -/
def askSumsSpec : ChangeSpec := { name := "askSums", fn := fun _ => fun
  | [d1, d2, d3] => { results := [.lit (.bool true)], args := [d1, d2, d3] }
  | _ => none }
def askSumsRow : OpenClaim := { program := "ytdbknbgomcabbaa", sum := "52b5caf23c400053c36fc910375effee2f9de914870bb67e28b5241142093f18", func := "gauger/gaugerlaw32.AskSums", spec := "askSums", unfollowed := true, recurses := true, apart := false }
def AskSumsSaid : Prop := askSumsRow.holds Try.pinned (OpenSpec.ofChange askSumsSpec)

/-- ITS FALSE NEIGHBOUR: 'it returns false'. Refute it at one input. -/
def askSumsWrong : ChangeSpec := { name := "askSums", fn := fun _ => fun
  | [d1, d2, d3] => { results := [.lit (.bool false)], args := [d1, d2, d3] }
  | _ => none }
def AskSumsWrongFalsely : Prop := askSumsRow.holds Try.pinned (OpenSpec.ofChange askSumsWrong)

/-- 'gaugerlaw32.AskSplit': WHATEVER THE INPUT: true; the input reads as it did. -/
def askSplitSpec : ChangeSpec := { name := "askSplit", fn := fun _ => fun
  | [d1, d2, d3, d4, d5] => { results := [.lit (.bool true)], args := [d1, d2, d3, d4, d5] }
  | _ => none }
def askSplitRow : OpenClaim := { program := "ytdbknbgomcabbaa", sum := "52b5caf23c400053c36fc910375effee2f9de914870bb67e28b5241142093f18", func := "gauger/gaugerlaw32.AskSplit", spec := "askSplit", unfollowed := true, recurses := true, apart := false }
def AskSplitSaid : Prop := askSplitRow.holds Try.pinned (OpenSpec.ofChange askSplitSpec)

/-- ITS FALSE NEIGHBOUR: 'it returns false'. Refute it at one input. -/
def askSplitWrong : ChangeSpec := { name := "askSplit", fn := fun _ => fun
  | [d1, d2, d3, d4, d5] => { results := [.lit (.bool false)], args := [d1, d2, d3, d4, d5] }
  | _ => none }
def AskSplitWrongFalsely : Prop := askSplitRow.holds Try.pinned (OpenSpec.ofChange askSplitWrong)

/-- 'gaugerlaw32.AskNext': WHATEVER THE INPUT: true; the input reads as it did. -/
def askNextSpec : ChangeSpec := { name := "askNext", fn := fun _ => fun
  | [d1, d2, d3] => { results := [.lit (.bool true)], args := [d1, d2, d3] }
  | _ => none }
def askNextRow : OpenClaim := { program := "ytdbknbgomcabbaa", sum := "52b5caf23c400053c36fc910375effee2f9de914870bb67e28b5241142093f18", func := "gauger/gaugerlaw32.AskNext", spec := "askNext", unfollowed := true, recurses := true, apart := false }
def AskNextSaid : Prop := askNextRow.holds Try.pinned (OpenSpec.ofChange askNextSpec)

/-- ITS FALSE NEIGHBOUR: 'it returns false'. Refute it at one input. -/
def askNextWrong : ChangeSpec := { name := "askNext", fn := fun _ => fun
  | [d1, d2, d3] => { results := [.lit (.bool false)], args := [d1, d2, d3] }
  | _ => none }
def AskNextWrongFalsely : Prop := askNextRow.holds Try.pinned (OpenSpec.ofChange askNextWrong)

/-- 'gaugerlaw32.AskStops': WHATEVER THE INPUT: true; the input reads as it did. -/
def askStopsSpec : ChangeSpec := { name := "askStops", fn := fun _ => fun
  | [d1, d2, d3, d4] => { results := [.lit (.bool true)], args := [d1, d2, d3, d4] }
  | _ => none }
def askStopsRow : OpenClaim := { program := "ytdbknbgomcabbaa", sum := "52b5caf23c400053c36fc910375effee2f9de914870bb67e28b5241142093f18", func := "gauger/gaugerlaw32.AskStops", spec := "askStops", unfollowed := true, recurses := true, apart := false }
def AskStopsSaid : Prop := askStopsRow.holds Try.pinned (OpenSpec.ofChange askStopsSpec)

/-- ITS FALSE NEIGHBOUR: 'it returns false'. Refute it at one input. -/
def askStopsWrong : ChangeSpec := { name := "askStops", fn := fun _ => fun
  | [d1, d2, d3, d4] => { results := [.lit (.bool false)], args := [d1, d2, d3, d4] }
  | _ => none }
def AskStopsWrongFalsely : Prop := askStopsRow.holds Try.pinned (OpenSpec.ofChange askStopsWrong)

/-- 'gaugerlaw32.AskWrong': WHATEVER THE INPUT: true; the input reads as it did. -/
def askWrongSpec : ChangeSpec := { name := "askWrong", fn := fun _ => fun
  | [d1, d2, d3, d4] => { results := [.lit (.bool true)], args := [d1, d2, d3, d4] }
  | _ => none }
def askWrongRow : OpenClaim := { program := "ytdbknbgomcabbaa", sum := "52b5caf23c400053c36fc910375effee2f9de914870bb67e28b5241142093f18", func := "gauger/gaugerlaw32.AskWrong", spec := "askWrong", unfollowed := true, recurses := true, apart := false }
def AskWrongSaid : Prop := askWrongRow.holds Try.pinned (OpenSpec.ofChange askWrongSpec)

/-- ITS FALSE NEIGHBOUR: 'it returns false'. Refute it at one input. -/
def askWrongWrong : ChangeSpec := { name := "askWrong", fn := fun _ => fun
  | [d1, d2, d3, d4] => { results := [.lit (.bool false)], args := [d1, d2, d3, d4] }
  | _ => none }
def AskWrongWrongFalsely : Prop := askWrongRow.holds Try.pinned (OpenSpec.ofChange askWrongWrong)

/- THE SECOND FORM. 'bulk': how many values and letters a reading holds, each counted each time it is reached (what is shared counts as often as it is met; a slice's spare places count too). A statement '..UptoSaid' is the law's where the arguments, and the package variables that the reading takes, are together of bulk at most 1048576: NARROWER than '..Said'. Prove '..Said' where nothing that the law and all that it calls make is longer than what came in: it says more and counts as full. Else prove '..UptoSaid'. A law counts once. -/
mutual
def uptoBulk {H : Type} : DataW H → Nat
  | .lit (.string bytes) => bytes.length + 1
  | .lit _ => 1
  | .nil => 1
  | .ptr d => uptoBulk d + 1
  | .slice elems spare => uptoBulkAll elems + uptoBulkAll spare + 1
  | .agg parts => uptoBulkAll parts + 1
  | .iface _ d => uptoBulk d + 1
  | .map entries => uptoBulkEntries entries + 1
  | .held _ => 1
def uptoBulkAll {H : Type} : List (DataW H) → Nat
  | [] => 0
  | d :: r => uptoBulk d + uptoBulkAll r
def uptoBulkEntries {H : Type} : List (Lit × DataW H) → Nat
  | [] => 0
  | x :: r => uptoBulkEntry x + uptoBulkEntries r
def uptoBulkEntry {H : Type} : Lit × DataW H → Nat
  | (.string bytes, d) => bytes.length + uptoBulk d + 1
  | (_, d) => uptoBulk d + 1
 end
def uptoSmall : (H : Type) → List (DataW H) → Bool := fun _ ds => decide (uptoBulkAll ds ≤ 1048576)
def OpenSpec.upto (s : _root_.Go.ChangeSpec) : _root_.Go.OpenSpec := { _root_.Go.OpenSpec.ofChange s with cond := some uptoSmall }

/-- 'gaugerlaw32.AskTells', WHERE WHAT IT READS IS OF BULK AT MOST 1048576: true; the input reads as it did. -/
def askTellsUptoRow : OpenClaim := { program := "ytdbknbgomcabbaa", sum := "52b5caf23c400053c36fc910375effee2f9de914870bb67e28b5241142093f18", func := "gauger/gaugerlaw32.AskTells", spec := "askTells", unfollowed := true, recurses := true, apart := false, narrowed := true }
def AskTellsUptoSaid : Prop := askTellsUptoRow.holds Try.pinned (OpenSpec.upto askTellsSpec)

/-- 'gaugerlaw32.AskSmall', WHERE WHAT IT READS IS OF BULK AT MOST 1048576: true; the input reads as it did. -/
def askSmallUptoRow : OpenClaim := { program := "ytdbknbgomcabbaa", sum := "52b5caf23c400053c36fc910375effee2f9de914870bb67e28b5241142093f18", func := "gauger/gaugerlaw32.AskSmall", spec := "askSmall", unfollowed := true, recurses := true, apart := false, narrowed := true }
def AskSmallUptoSaid : Prop := askSmallUptoRow.holds Try.pinned (OpenSpec.upto askSmallSpec)

/-- 'gaugerlaw32.AskOnce', WHERE WHAT IT READS IS OF BULK AT MOST 1048576: true; the input reads as it did. -/
def askOnceUptoRow : OpenClaim := { program := "ytdbknbgomcabbaa", sum := "52b5caf23c400053c36fc910375effee2f9de914870bb67e28b5241142093f18", func := "gauger/gaugerlaw32.AskOnce", spec := "askOnce", unfollowed := true, recurses := true, apart := false, narrowed := true }
def AskOnceUptoSaid : Prop := askOnceUptoRow.holds Try.pinned (OpenSpec.upto askOnceSpec)

/-- 'gaugerlaw32.AskSums', WHERE WHAT IT READS IS OF BULK AT MOST 1048576: true; the input reads as it did. -/
def askSumsUptoRow : OpenClaim := { program := "ytdbknbgomcabbaa", sum := "52b5caf23c400053c36fc910375effee2f9de914870bb67e28b5241142093f18", func := "gauger/gaugerlaw32.AskSums", spec := "askSums", unfollowed := true, recurses := true, apart := false, narrowed := true }
def AskSumsUptoSaid : Prop := askSumsUptoRow.holds Try.pinned (OpenSpec.upto askSumsSpec)

/-- 'gaugerlaw32.AskSplit', WHERE WHAT IT READS IS OF BULK AT MOST 1048576: true; the input reads as it did. -/
def askSplitUptoRow : OpenClaim := { program := "ytdbknbgomcabbaa", sum := "52b5caf23c400053c36fc910375effee2f9de914870bb67e28b5241142093f18", func := "gauger/gaugerlaw32.AskSplit", spec := "askSplit", unfollowed := true, recurses := true, apart := false, narrowed := true }
def AskSplitUptoSaid : Prop := askSplitUptoRow.holds Try.pinned (OpenSpec.upto askSplitSpec)

/-- 'gaugerlaw32.AskNext', WHERE WHAT IT READS IS OF BULK AT MOST 1048576: true; the input reads as it did. -/
def askNextUptoRow : OpenClaim := { program := "ytdbknbgomcabbaa", sum := "52b5caf23c400053c36fc910375effee2f9de914870bb67e28b5241142093f18", func := "gauger/gaugerlaw32.AskNext", spec := "askNext", unfollowed := true, recurses := true, apart := false, narrowed := true }
def AskNextUptoSaid : Prop := askNextUptoRow.holds Try.pinned (OpenSpec.upto askNextSpec)

/-- 'gaugerlaw32.AskStops', WHERE WHAT IT READS IS OF BULK AT MOST 1048576: true; the input reads as it did. -/
def askStopsUptoRow : OpenClaim := { program := "ytdbknbgomcabbaa", sum := "52b5caf23c400053c36fc910375effee2f9de914870bb67e28b5241142093f18", func := "gauger/gaugerlaw32.AskStops", spec := "askStops", unfollowed := true, recurses := true, apart := false, narrowed := true }
def AskStopsUptoSaid : Prop := askStopsUptoRow.holds Try.pinned (OpenSpec.upto askStopsSpec)

/-- 'gaugerlaw32.AskWrong', WHERE WHAT IT READS IS OF BULK AT MOST 1048576: true; the input reads as it did. -/
def askWrongUptoRow : OpenClaim := { program := "ytdbknbgomcabbaa", sum := "52b5caf23c400053c36fc910375effee2f9de914870bb67e28b5241142093f18", func := "gauger/gaugerlaw32.AskWrong", spec := "askWrong", unfollowed := true, recurses := true, apart := false, narrowed := true }
def AskWrongUptoSaid : Prop := askWrongUptoRow.holds Try.pinned (OpenSpec.upto askWrongSpec)

end Rows
end Go.Proofs.Ytdbknbgomcabbaa
