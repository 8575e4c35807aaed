/-
  No cell of these rows narrows 'for every input' (looked for: loops, veiled, ifaces, maps, wideKeys, modest, calm, conditions, laid).
  DERIVED. THE GIVEN ROWS OF THIS SEAT. 8 by the template 'for every input the law returns true; each argument reads behind the call as it read before'; 0 by the template 'total and deterministic' (their statements: YthbefhpgpebkgaaTotals.lean).
  GIVEN WITH THE SEED: the statements are not yours to turn. If you find one false, say at which input.
  Laid BY PROGRAM, IN A SANDBOX (cutbox-rows.mjs): the forced cells as the released guide's own fill.sh prints them over the translation 3dd47defde33a521… (all of the seat's roots in one cut). By AI agents, Wed Nov 11 2026. No macro, syntax, notation, axiom, sorry.
-/
import Derived.Test.YthbefhpgpebkgaaChecked
import GoSem.Claim
import GoSem.ClaimJoined
import GoSem.ClaimMapViews
import Derived.JoinedTies
import Derived.KernelRfl
namespace Go.Proofs.Ythbefhpgpebkgaa
/- THE CELL 'sum', in the pinned program and in every row, IS THE sha256 OF THE DUMP (.gsa) THAT YthbefhpgpebkgaaProg.lean LOADS. Nothing in Lean hashes anything: it is a label: what it is worth is what the hold of that sum in a sandbox is worth. -/
noncomputable def Try.pinned : Pinned := { name := "ythbefhpgpebkgaa", sum := "3dd47defde33a5211f8bfa2fc42b1c57de82cc60aa75b172cf4b49a7e6465c8a", checked := Try.checked }
namespace Rows
def none {H : Type} : Left H := { results := [], args := [] }

/-- 'gaugerlaw31.ThrottleApart': WHATEVER THE INPUT: true; the input reads as it did. -/
def throttleApartSpec : ChangeSpec := { name := "throttleApart", fn := fun _ => fun
  | [d1, d2] => { results := [.lit (.bool true)], args := [d1, d2] }
  | _ => none }
def throttleApartRow : OpenClaim := { program := "ythbefhpgpebkgaa", sum := "3dd47defde33a5211f8bfa2fc42b1c57de82cc60aa75b172cf4b49a7e6465c8a", func := "gauger/gaugerlaw31.ThrottleApart", spec := "throttleApart", unfollowed := true, recurses := true, apart := false }
def ThrottleApartSaid : Prop := throttleApartRow.holds Try.pinned (OpenSpec.ofChange throttleApartSpec)

/-- ITS FALSE NEIGHBOUR: 'it returns false'. Refute it at one input. -/
def throttleApartWrong : ChangeSpec := { name := "throttleApart", fn := fun _ => fun
  | [d1, d2] => { results := [.lit (.bool false)], args := [d1, d2] }
  | _ => none }
def ThrottleApartWrongFalsely : Prop := throttleApartRow.holds Try.pinned (OpenSpec.ofChange throttleApartWrong)

/-- 'gaugerlaw31.ThrottleSoon': WHATEVER THE INPUT: true; the input reads as it did. -/
def throttleSoonSpec : ChangeSpec := { name := "throttleSoon", fn := fun _ => fun
  | [d1, d2] => { results := [.lit (.bool true)], args := [d1, d2] }
  | _ => none }
def throttleSoonRow : OpenClaim := { program := "ythbefhpgpebkgaa", sum := "3dd47defde33a5211f8bfa2fc42b1c57de82cc60aa75b172cf4b49a7e6465c8a", func := "gauger/gaugerlaw31.ThrottleSoon", spec := "throttleSoon", unfollowed := true, recurses := true, apart := false }
def ThrottleSoonSaid : Prop := throttleSoonRow.holds Try.pinned (OpenSpec.ofChange throttleSoonSpec)

/-- ITS FALSE NEIGHBOUR: 'it returns false'. Refute it at one input. -/
def throttleSoonWrong : ChangeSpec := { name := "throttleSoon", fn := fun _ => fun
  | [d1, d2] => { results := [.lit (.bool false)], args := [d1, d2] }
  | _ => none }
def ThrottleSoonWrongFalsely : Prop := throttleSoonRow.holds Try.pinned (OpenSpec.ofChange throttleSoonWrong)

/-- 'gaugerlaw31.ThrottleFree': WHATEVER THE INPUT: true; the input reads as it did. -/
def throttleFreeSpec : ChangeSpec := { name := "throttleFree", fn := fun _ => fun
  | [d1, d2] => { results := [.lit (.bool true)], args := [d1, d2] }
  | _ => none }
def throttleFreeRow : OpenClaim := { program := "ythbefhpgpebkgaa", sum := "3dd47defde33a5211f8bfa2fc42b1c57de82cc60aa75b172cf4b49a7e6465c8a", func := "gauger/gaugerlaw31.ThrottleFree", spec := "throttleFree", unfollowed := true, recurses := true, apart := false }
def ThrottleFreeSaid : Prop := throttleFreeRow.holds Try.pinned (OpenSpec.ofChange throttleFreeSpec)

/-- ITS FALSE NEIGHBOUR: 'it returns false'. Refute it at one input. -/
def throttleFreeWrong : ChangeSpec := { name := "throttleFree", fn := fun _ => fun
  | [d1, d2] => { results := [.lit (.bool false)], args := [d1, d2] }
  | _ => none }
def ThrottleFreeWrongFalsely : Prop := throttleFreeRow.holds Try.pinned (OpenSpec.ofChange throttleFreeWrong)

/-- 'gaugerlaw31.ThrottleKeeps': WHATEVER THE INPUT: true; the input reads as it did. -/
def throttleKeepsSpec : ChangeSpec := { name := "throttleKeeps", fn := fun _ => fun
  | [d1, d2] => { results := [.lit (.bool true)], args := [d1, d2] }
  | _ => none }
def throttleKeepsRow : OpenClaim := { program := "ythbefhpgpebkgaa", sum := "3dd47defde33a5211f8bfa2fc42b1c57de82cc60aa75b172cf4b49a7e6465c8a", func := "gauger/gaugerlaw31.ThrottleKeeps", spec := "throttleKeeps", unfollowed := true, recurses := true, apart := false }
def ThrottleKeepsSaid : Prop := throttleKeepsRow.holds Try.pinned (OpenSpec.ofChange throttleKeepsSpec)

/-- ITS FALSE NEIGHBOUR: 'it returns false'. Refute it at one input. -/
def throttleKeepsWrong : ChangeSpec := { name := "throttleKeeps", fn := fun _ => fun
  | [d1, d2] => { results := [.lit (.bool false)], args := [d1, d2] }
  | _ => none }
def ThrottleKeepsWrongFalsely : Prop := throttleKeepsRow.holds Try.pinned (OpenSpec.ofChange throttleKeepsWrong)

/-- 'gaugerlaw31.ThrottleWrong': WHATEVER THE INPUT: true; the input reads as it did. -/
def throttleWrongSpec : ChangeSpec := { name := "throttleWrong", fn := fun _ => fun
  | [d1, d2, d3] => { results := [.lit (.bool true)], args := [d1, d2, d3] }
  | _ => none }
def throttleWrongRow : OpenClaim := { program := "ythbefhpgpebkgaa", sum := "3dd47defde33a5211f8bfa2fc42b1c57de82cc60aa75b172cf4b49a7e6465c8a", func := "gauger/gaugerlaw31.ThrottleWrong", spec := "throttleWrong", unfollowed := true, recurses := true, apart := false }
def ThrottleWrongSaid : Prop := throttleWrongRow.holds Try.pinned (OpenSpec.ofChange throttleWrongSpec)

/-- ITS FALSE NEIGHBOUR: 'it returns false'. Refute it at one input. -/
def throttleWrongWrong : ChangeSpec := { name := "throttleWrong", fn := fun _ => fun
  | [d1, d2, d3] => { results := [.lit (.bool false)], args := [d1, d2, d3] }
  | _ => none }
def ThrottleWrongWrongFalsely : Prop := throttleWrongRow.holds Try.pinned (OpenSpec.ofChange throttleWrongWrong)

/-- 'gaugerlaw31.ThrottleTells': WHATEVER THE INPUT: true; the input reads as it did. -/
def throttleTellsSpec : ChangeSpec := { name := "throttleTells", fn := fun _ => fun
  | [d1, d2] => { results := [.lit (.bool true)], args := [d1, d2] }
  | _ => none }
def throttleTellsRow : OpenClaim := { program := "ythbefhpgpebkgaa", sum := "3dd47defde33a5211f8bfa2fc42b1c57de82cc60aa75b172cf4b49a7e6465c8a", func := "gauger/gaugerlaw31.ThrottleTells", spec := "throttleTells", unfollowed := true, recurses := true, apart := false }
def ThrottleTellsSaid : Prop := throttleTellsRow.holds Try.pinned (OpenSpec.ofChange throttleTellsSpec)

/-- ITS FALSE NEIGHBOUR: 'it returns false'. Refute it at one input. -/
def throttleTellsWrong : ChangeSpec := { name := "throttleTells", fn := fun _ => fun
  | [d1, d2] => { results := [.lit (.bool false)], args := [d1, d2] }
  | _ => none }
def ThrottleTellsWrongFalsely : Prop := throttleTellsRow.holds Try.pinned (OpenSpec.ofChange throttleTellsWrong)

/-- 'gaugerlaw31.ThrottleSmall': WHATEVER THE INPUT: true; the input reads as it did. -/
def throttleSmallSpec : ChangeSpec := { name := "throttleSmall", fn := fun _ => fun
  | [] => { results := [.lit (.bool true)], args := [] }
  | _ => none }
def throttleSmallRow : OpenClaim := { program := "ythbefhpgpebkgaa", sum := "3dd47defde33a5211f8bfa2fc42b1c57de82cc60aa75b172cf4b49a7e6465c8a", func := "gauger/gaugerlaw31.ThrottleSmall", spec := "throttleSmall", unfollowed := true, recurses := true, apart := false }
def ThrottleSmallSaid : Prop := throttleSmallRow.holds Try.pinned (OpenSpec.ofChange throttleSmallSpec)

/-- ITS FALSE NEIGHBOUR: 'it returns false'. Refute it at one input. -/
def throttleSmallWrong : ChangeSpec := { name := "throttleSmall", fn := fun _ => fun
  | [] => { results := [.lit (.bool false)], args := [] }
  | _ => none }
def ThrottleSmallWrongFalsely : Prop := throttleSmallRow.holds Try.pinned (OpenSpec.ofChange throttleSmallWrong)

/-- 'gaugerlaw31.ThrottleSums': WHATEVER THE INPUT: true; the input reads as it did. -/
def throttleSumsSpec : ChangeSpec := { name := "throttleSums", fn := fun _ => fun
  | [d1, d2, d3] => { results := [.lit (.bool true)], args := [d1, d2, d3] }
  | _ => none }
def throttleSumsRow : OpenClaim := { program := "ythbefhpgpebkgaa", sum := "3dd47defde33a5211f8bfa2fc42b1c57de82cc60aa75b172cf4b49a7e6465c8a", func := "gauger/gaugerlaw31.ThrottleSums", spec := "throttleSums", unfollowed := true, recurses := true, apart := false }
def ThrottleSumsSaid : Prop := throttleSumsRow.holds Try.pinned (OpenSpec.ofChange throttleSumsSpec)

/-- ITS FALSE NEIGHBOUR: 'it returns false'. Refute it at one input. -/
def throttleSumsWrong : ChangeSpec := { name := "throttleSums", fn := fun _ => fun
  | [d1, d2, d3] => { results := [.lit (.bool false)], args := [d1, d2, d3] }
  | _ => none }
def ThrottleSumsWrongFalsely : Prop := throttleSumsRow.holds Try.pinned (OpenSpec.ofChange throttleSumsWrong)

/- THE SECOND FORM. 'bulk': how many values and letters a reading holds, each counted each time it is reached (what is shared counts as often as it is met; a slice's spare places count too). A statement '..UptoSaid' is the law's where the arguments, and the package variables that the reading takes, are together of bulk at most 1048576: NARROWER than '..Said'. Prove '..Said' where nothing that the law and all that it calls make is longer than what came in: it says more and counts as full. Else prove '..UptoSaid'. A law counts once. -/
mutual
def uptoBulk {H : Type} : DataW H → Nat
  | .lit (.string bytes) => bytes.length + 1
  | .lit _ => 1
  | .nil => 1
  | .ptr d => uptoBulk d + 1
  | .slice elems spare => uptoBulkAll elems + uptoBulkAll spare + 1
  | .agg parts => uptoBulkAll parts + 1
  | .iface _ d => uptoBulk d + 1
  | .map entries => uptoBulkEntries entries + 1
  | .held _ => 1
def uptoBulkAll {H : Type} : List (DataW H) → Nat
  | [] => 0
  | d :: r => uptoBulk d + uptoBulkAll r
def uptoBulkEntries {H : Type} : List (Lit × DataW H) → Nat
  | [] => 0
  | x :: r => uptoBulkEntry x + uptoBulkEntries r
def uptoBulkEntry {H : Type} : Lit × DataW H → Nat
  | (.string bytes, d) => bytes.length + uptoBulk d + 1
  | (_, d) => uptoBulk d + 1
 end
def uptoSmall : (H : Type) → List (DataW H) → Bool := fun _ ds => decide (uptoBulkAll ds ≤ 1048576)
def OpenSpec.upto (s : _root_.Go.ChangeSpec) : _root_.Go.OpenSpec := { _root_.Go.OpenSpec.ofChange s with cond := some uptoSmall }

/-- 'gaugerlaw31.ThrottleApart', WHERE WHAT IT READS IS OF BULK AT MOST 1048576: true; the input reads as it did. -/
def throttleApartUptoRow : OpenClaim := { program := "ythbefhpgpebkgaa", sum := "3dd47defde33a5211f8bfa2fc42b1c57de82cc60aa75b172cf4b49a7e6465c8a", func := "gauger/gaugerlaw31.ThrottleApart", spec := "throttleApart", unfollowed := true, recurses := true, apart := false, narrowed := true }
def ThrottleApartUptoSaid : Prop := throttleApartUptoRow.holds Try.pinned (OpenSpec.upto throttleApartSpec)

/-- 'gaugerlaw31.ThrottleSoon', WHERE WHAT IT READS IS OF BULK AT MOST 1048576: true; the input reads as it did. -/
def throttleSoonUptoRow : OpenClaim := { program := "ythbefhpgpebkgaa", sum := "3dd47defde33a5211f8bfa2fc42b1c57de82cc60aa75b172cf4b49a7e6465c8a", func := "gauger/gaugerlaw31.ThrottleSoon", spec := "throttleSoon", unfollowed := true, recurses := true, apart := false, narrowed := true }
def ThrottleSoonUptoSaid : Prop := throttleSoonUptoRow.holds Try.pinned (OpenSpec.upto throttleSoonSpec)

/-- 'gaugerlaw31.ThrottleFree', WHERE WHAT IT READS IS OF BULK AT MOST 1048576: true; the input reads as it did. -/
def throttleFreeUptoRow : OpenClaim := { program := "ythbefhpgpebkgaa", sum := "3dd47defde33a5211f8bfa2fc42b1c57de82cc60aa75b172cf4b49a7e6465c8a", func := "gauger/gaugerlaw31.ThrottleFree", spec := "throttleFree", unfollowed := true, recurses := true, apart := false, narrowed := true }
def ThrottleFreeUptoSaid : Prop := throttleFreeUptoRow.holds Try.pinned (OpenSpec.upto throttleFreeSpec)

/-- 'gaugerlaw31.ThrottleKeeps', WHERE WHAT IT READS IS OF BULK AT MOST 1048576: true; the input reads as it did. -/
def throttleKeepsUptoRow : OpenClaim := { program := "ythbefhpgpebkgaa", sum := "3dd47defde33a5211f8bfa2fc42b1c57de82cc60aa75b172cf4b49a7e6465c8a", func := "gauger/gaugerlaw31.ThrottleKeeps", spec := "throttleKeeps", unfollowed := true, recurses := true, apart := false, narrowed := true }
def ThrottleKeepsUptoSaid : Prop := throttleKeepsUptoRow.holds Try.pinned (OpenSpec.upto throttleKeepsSpec)

/-- 'gaugerlaw31.ThrottleWrong', WHERE WHAT IT READS IS OF BULK AT MOST 1048576: true; the input reads as it did. -/
def throttleWrongUptoRow : OpenClaim := { program := "ythbefhpgpebkgaa", sum := "3dd47defde33a5211f8bfa2fc42b1c57de82cc60aa75b172cf4b49a7e6465c8a", func := "gauger/gaugerlaw31.ThrottleWrong", spec := "throttleWrong", unfollowed := true, recurses := true, apart := false, narrowed := true }
def ThrottleWrongUptoSaid : Prop := throttleWrongUptoRow.holds Try.pinned (OpenSpec.upto throttleWrongSpec)

/-- 'gaugerlaw31.ThrottleTells', WHERE WHAT IT READS IS OF BULK AT MOST 1048576: true; the input reads as it did. -/
def throttleTellsUptoRow : OpenClaim := { program := "ythbefhpgpebkgaa", sum := "3dd47defde33a5211f8bfa2fc42b1c57de82cc60aa75b172cf4b49a7e6465c8a", func := "gauger/gaugerlaw31.ThrottleTells", spec := "throttleTells", unfollowed := true, recurses := true, apart := false, narrowed := true }
def ThrottleTellsUptoSaid : Prop := throttleTellsUptoRow.holds Try.pinned (OpenSpec.upto throttleTellsSpec)

/-- 'gaugerlaw31.ThrottleSmall', WHERE WHAT IT READS IS OF BULK AT MOST 1048576: true; the input reads as it did. -/
def throttleSmallUptoRow : OpenClaim := { program := "ythbefhpgpebkgaa", sum := "3dd47defde33a5211f8bfa2fc42b1c57de82cc60aa75b172cf4b49a7e6465c8a", func := "gauger/gaugerlaw31.ThrottleSmall", spec := "throttleSmall", unfollowed := true, recurses := true, apart := false, narrowed := true }
def ThrottleSmallUptoSaid : Prop := throttleSmallUptoRow.holds Try.pinned (OpenSpec.upto throttleSmallSpec)

/-- 'gaugerlaw31.ThrottleSums', WHERE WHAT IT READS IS OF BULK AT MOST 1048576: true; the input reads as it did. -/
def throttleSumsUptoRow : OpenClaim := { program := "ythbefhpgpebkgaa", sum := "3dd47defde33a5211f8bfa2fc42b1c57de82cc60aa75b172cf4b49a7e6465c8a", func := "gauger/gaugerlaw31.ThrottleSums", spec := "throttleSums", unfollowed := true, recurses := true, apart := false, narrowed := true }
def ThrottleSumsUptoSaid : Prop := throttleSumsUptoRow.holds Try.pinned (OpenSpec.upto throttleSumsSpec)

end Rows
end Go.Proofs.Ythbefhpgpebkgaa
