/-
  No cell of these rows narrows 'for every input' (looked for: loops, veiled, ifaces, maps, wideKeys, modest, calm, conditions, laid).
  DERIVED. THE GIVEN ROWS OF THIS SEAT. 9 by the template 'for every input the law returns true; each argument reads behind the call as it read before'; 0 by the template 'total and deterministic' (their statements: YtpgdogcgdlijeaaTotals.lean).
  GIVEN WITH THE SEED: the statements are not yours to turn. If you find one false, say at which input.
  Laid BY PROGRAM, IN A SANDBOX (cutbox-rows.mjs): the forced cells as the released guide's own fill.sh prints them over the translation aa1a0d0ee5831134… (all of the seat's roots in one cut). By AI agents, Wed Nov 11 2026. No macro, syntax, notation, axiom, sorry.
-/
import Derived.Test.YtpgdogcgdlijeaaChecked
import GoSem.Claim
import GoSem.ClaimJoined
import GoSem.ClaimMapViews
import Derived.JoinedTies
import Derived.KernelRfl
namespace Go.Proofs.Ytpgdogcgdlijeaa
/- THE CELL 'sum', in the pinned program and in every row, IS THE sha256 OF THE DUMP (.gsa) THAT YtpgdogcgdlijeaaProg.lean LOADS. Nothing in Lean hashes anything: it is a label: what it is worth is what the hold of that sum in a sandbox is worth. -/
noncomputable def Try.pinned : Pinned := { name := "ytpgdogcgdlijeaa", sum := "aa1a0d0ee583113429ab23284e6c1033ec4d4e30f53e72afaa4a851f26bf5dc2", checked := Try.checked }
namespace Rows
def none {H : Type} : Left H := { results := [], args := [] }

/-- 'gaugerlaw28.DueTells': WHATEVER THE INPUT: true; the input reads as it did. -/
def dueTellsSpec : ChangeSpec := { name := "dueTells", fn := fun _ => fun
  | [d1, d2, d3, d4] => { results := [.lit (.bool true)], args := [d1, d2, d3, d4] }
  | _ => none }
def dueTellsRow : OpenClaim := { program := "ytpgdogcgdlijeaa", sum := "aa1a0d0ee583113429ab23284e6c1033ec4d4e30f53e72afaa4a851f26bf5dc2", func := "gauger/gaugerlaw28.DueTells", spec := "dueTells", unfollowed := true, recurses := true, apart := false }
def DueTellsSaid : Prop := dueTellsRow.holds Try.pinned (OpenSpec.ofChange dueTellsSpec)

/-- ITS FALSE NEIGHBOUR: 'it returns false'. Refute it at one input. -/
def dueTellsWrong : ChangeSpec := { name := "dueTells", fn := fun _ => fun
  | [d1, d2, d3, d4] => { results := [.lit (.bool false)], args := [d1, d2, d3, d4] }
  | _ => none }
def DueTellsWrongFalsely : Prop := dueTellsRow.holds Try.pinned (OpenSpec.ofChange dueTellsWrong)

/-- 'gaugerlaw28.DueMakes': WHATEVER THE INPUT: true; the input reads as it did. -/
def dueMakesSpec : ChangeSpec := { name := "dueMakes", fn := fun _ => fun
  | [d1, d2, d3] => { results := [.lit (.bool true)], args := [d1, d2, d3] }
  | _ => none }
def dueMakesRow : OpenClaim := { program := "ytpgdogcgdlijeaa", sum := "aa1a0d0ee583113429ab23284e6c1033ec4d4e30f53e72afaa4a851f26bf5dc2", func := "gauger/gaugerlaw28.DueMakes", spec := "dueMakes", unfollowed := true, recurses := true, apart := false }
def DueMakesSaid : Prop := dueMakesRow.holds Try.pinned (OpenSpec.ofChange dueMakesSpec)

/-- ITS FALSE NEIGHBOUR: 'it returns false'. Refute it at one input. -/
def dueMakesWrong : ChangeSpec := { name := "dueMakes", fn := fun _ => fun
  | [d1, d2, d3] => { results := [.lit (.bool false)], args := [d1, d2, d3] }
  | _ => none }
def DueMakesWrongFalsely : Prop := dueMakesRow.holds Try.pinned (OpenSpec.ofChange dueMakesWrong)

/-- 'gaugerlaw28.DueSmall': WHATEVER THE INPUT: true; the input reads as it did. -/
def dueSmallSpec : ChangeSpec := { name := "dueSmall", fn := fun _ => fun
  | [] => { results := [.lit (.bool true)], args := [] }
  | _ => none }
def dueSmallRow : OpenClaim := { program := "ytpgdogcgdlijeaa", sum := "aa1a0d0ee583113429ab23284e6c1033ec4d4e30f53e72afaa4a851f26bf5dc2", func := "gauger/gaugerlaw28.DueSmall", spec := "dueSmall", unfollowed := true, recurses := true, apart := false }
def DueSmallSaid : Prop := dueSmallRow.holds Try.pinned (OpenSpec.ofChange dueSmallSpec)

/-- ITS FALSE NEIGHBOUR: 'it returns false'. Refute it at one input. -/
def dueSmallWrong : ChangeSpec := { name := "dueSmall", fn := fun _ => fun
  | [] => { results := [.lit (.bool false)], args := [] }
  | _ => none }
def DueSmallWrongFalsely : Prop := dueSmallRow.holds Try.pinned (OpenSpec.ofChange dueSmallWrong)

/-- 'gaugerlaw28.DueParts': WHATEVER THE INPUT: true; the input reads as it did. -/
def duePartsSpec : ChangeSpec := { name := "dueParts", fn := fun _ => fun
  | [d1, d2, d3, d4, d5, d6, d7, d8] => { results := [.lit (.bool true)], args := [d1, d2, d3, d4, d5, d6, d7, d8] }
  | _ => none }
def duePartsRow : OpenClaim := { program := "ytpgdogcgdlijeaa", sum := "aa1a0d0ee583113429ab23284e6c1033ec4d4e30f53e72afaa4a851f26bf5dc2", func := "gauger/gaugerlaw28.DueParts", spec := "dueParts", unfollowed := true, recurses := true, apart := false }
def DuePartsSaid : Prop := duePartsRow.holds Try.pinned (OpenSpec.ofChange duePartsSpec)

/-- ITS FALSE NEIGHBOUR: 'it returns false'. Refute it at one input. -/
def duePartsWrong : ChangeSpec := { name := "dueParts", fn := fun _ => fun
  | [d1, d2, d3, d4, d5, d6, d7, d8] => { results := [.lit (.bool false)], args := [d1, d2, d3, d4, d5, d6, d7, d8] }
  | _ => none }
def DuePartsWrongFalsely : Prop := duePartsRow.holds Try.pinned (OpenSpec.ofChange duePartsWrong)

/-- 'gaugerlaw28.DueTicks': WHATEVER THE INPUT: true; the input reads as it did. -/
def dueTicksSpec : ChangeSpec := { name := "dueTicks", fn := fun _ => fun
  | [d1, d2, d3, d4, d5, d6, d7] => { results := [.lit (.bool true)], args := [d1, d2, d3, d4, d5, d6, d7] }
  | _ => none }
def dueTicksRow : OpenClaim := { program := "ytpgdogcgdlijeaa", sum := "aa1a0d0ee583113429ab23284e6c1033ec4d4e30f53e72afaa4a851f26bf5dc2", func := "gauger/gaugerlaw28.DueTicks", spec := "dueTicks", unfollowed := true, recurses := true, apart := false }
def DueTicksSaid : Prop := dueTicksRow.holds Try.pinned (OpenSpec.ofChange dueTicksSpec)

/-- ITS FALSE NEIGHBOUR: 'it returns false'. Refute it at one input. -/
def dueTicksWrong : ChangeSpec := { name := "dueTicks", fn := fun _ => fun
  | [d1, d2, d3, d4, d5, d6, d7] => { results := [.lit (.bool false)], args := [d1, d2, d3, d4, d5, d6, d7] }
  | _ => none }
def DueTicksWrongFalsely : Prop := dueTicksRow.holds Try.pinned (OpenSpec.ofChange dueTicksWrong)

/-- 'gaugerlaw28.DueNext': WHATEVER THE INPUT: true; the input reads as it did. -/
def dueNextSpec : ChangeSpec := { name := "dueNext", fn := fun _ => fun
  | [d1, d2, d3, d4, d5] => { results := [.lit (.bool true)], args := [d1, d2, d3, d4, d5] }
  | _ => none }
def dueNextRow : OpenClaim := { program := "ytpgdogcgdlijeaa", sum := "aa1a0d0ee583113429ab23284e6c1033ec4d4e30f53e72afaa4a851f26bf5dc2", func := "gauger/gaugerlaw28.DueNext", spec := "dueNext", unfollowed := true, recurses := true, apart := false }
def DueNextSaid : Prop := dueNextRow.holds Try.pinned (OpenSpec.ofChange dueNextSpec)

/-- ITS FALSE NEIGHBOUR: 'it returns false'. Refute it at one input. -/
def dueNextWrong : ChangeSpec := { name := "dueNext", fn := fun _ => fun
  | [d1, d2, d3, d4, d5] => { results := [.lit (.bool false)], args := [d1, d2, d3, d4, d5] }
  | _ => none }
def DueNextWrongFalsely : Prop := dueNextRow.holds Try.pinned (OpenSpec.ofChange dueNextWrong)

/-- 'gaugerlaw28.DueWakes': WHATEVER THE INPUT: true; the input reads as it did. -/
def dueWakesSpec : ChangeSpec := { name := "dueWakes", fn := fun _ => fun
  | [d1, d2, d3, d4, d5, d6] => { results := [.lit (.bool true)], args := [d1, d2, d3, d4, d5, d6] }
  | _ => none }
def dueWakesRow : OpenClaim := { program := "ytpgdogcgdlijeaa", sum := "aa1a0d0ee583113429ab23284e6c1033ec4d4e30f53e72afaa4a851f26bf5dc2", func := "gauger/gaugerlaw28.DueWakes", spec := "dueWakes", unfollowed := true, recurses := true, apart := false }
def DueWakesSaid : Prop := dueWakesRow.holds Try.pinned (OpenSpec.ofChange dueWakesSpec)

/-- ITS FALSE NEIGHBOUR: 'it returns false'. Refute it at one input. -/
def dueWakesWrong : ChangeSpec := { name := "dueWakes", fn := fun _ => fun
  | [d1, d2, d3, d4, d5, d6] => { results := [.lit (.bool false)], args := [d1, d2, d3, d4, d5, d6] }
  | _ => none }
def DueWakesWrongFalsely : Prop := dueWakesRow.holds Try.pinned (OpenSpec.ofChange dueWakesWrong)

/-- 'gaugerlaw28.DueSpread': WHATEVER THE INPUT: true; the input reads as it did. -/
def dueSpreadSpec : ChangeSpec := { name := "dueSpread", fn := fun _ => fun
  | [d1, d2, d3, d4] => { results := [.lit (.bool true)], args := [d1, d2, d3, d4] }
  | _ => none }
def dueSpreadRow : OpenClaim := { program := "ytpgdogcgdlijeaa", sum := "aa1a0d0ee583113429ab23284e6c1033ec4d4e30f53e72afaa4a851f26bf5dc2", func := "gauger/gaugerlaw28.DueSpread", spec := "dueSpread", unfollowed := true, recurses := true, apart := false }
def DueSpreadSaid : Prop := dueSpreadRow.holds Try.pinned (OpenSpec.ofChange dueSpreadSpec)

/-- ITS FALSE NEIGHBOUR: 'it returns false'. Refute it at one input. -/
def dueSpreadWrong : ChangeSpec := { name := "dueSpread", fn := fun _ => fun
  | [d1, d2, d3, d4] => { results := [.lit (.bool false)], args := [d1, d2, d3, d4] }
  | _ => none }
def DueSpreadWrongFalsely : Prop := dueSpreadRow.holds Try.pinned (OpenSpec.ofChange dueSpreadWrong)

/-- 'gaugerlaw28.DueWrong': WHATEVER THE INPUT: true; the input reads as it did. -/
def dueWrongSpec : ChangeSpec := { name := "dueWrong", fn := fun _ => fun
  | [d1, d2, d3, d4, d5] => { results := [.lit (.bool true)], args := [d1, d2, d3, d4, d5] }
  | _ => none }
def dueWrongRow : OpenClaim := { program := "ytpgdogcgdlijeaa", sum := "aa1a0d0ee583113429ab23284e6c1033ec4d4e30f53e72afaa4a851f26bf5dc2", func := "gauger/gaugerlaw28.DueWrong", spec := "dueWrong", unfollowed := true, recurses := true, apart := false }
def DueWrongSaid : Prop := dueWrongRow.holds Try.pinned (OpenSpec.ofChange dueWrongSpec)

/-- ITS FALSE NEIGHBOUR: 'it returns false'. Refute it at one input. -/
def dueWrongWrong : ChangeSpec := { name := "dueWrong", fn := fun _ => fun
  | [d1, d2, d3, d4, d5] => { results := [.lit (.bool false)], args := [d1, d2, d3, d4, d5] }
  | _ => none }
def DueWrongWrongFalsely : Prop := dueWrongRow.holds Try.pinned (OpenSpec.ofChange dueWrongWrong)

/- THE SECOND FORM. 'bulk': how many values and letters a reading holds, each counted each time it is reached (what is shared counts as often as it is met; a slice's spare places count too). A statement '..UptoSaid' is the law's where the arguments, and the package variables that the reading takes, are together of bulk at most 1048576: NARROWER than '..Said'. Prove '..Said' where nothing that the law and all that it calls make is longer than what came in: it says more and counts as full. Else prove '..UptoSaid'. A law counts once. -/
mutual
def uptoBulk {H : Type} : DataW H → Nat
  | .lit (.string bytes) => bytes.length + 1
  | .lit _ => 1
  | .nil => 1
  | .ptr d => uptoBulk d + 1
  | .slice elems spare => uptoBulkAll elems + uptoBulkAll spare + 1
  | .agg parts => uptoBulkAll parts + 1
  | .iface _ d => uptoBulk d + 1
  | .map entries => uptoBulkEntries entries + 1
  | .held _ => 1
def uptoBulkAll {H : Type} : List (DataW H) → Nat
  | [] => 0
  | d :: r => uptoBulk d + uptoBulkAll r
def uptoBulkEntries {H : Type} : List (Lit × DataW H) → Nat
  | [] => 0
  | x :: r => uptoBulkEntry x + uptoBulkEntries r
def uptoBulkEntry {H : Type} : Lit × DataW H → Nat
  | (.string bytes, d) => bytes.length + uptoBulk d + 1
  | (_, d) => uptoBulk d + 1
 end
def uptoSmall : (H : Type) → List (DataW H) → Bool := fun _ ds => decide (uptoBulkAll ds ≤ 1048576)
def OpenSpec.upto (s : _root_.Go.ChangeSpec) : _root_.Go.OpenSpec := { _root_.Go.OpenSpec.ofChange s with cond := some uptoSmall }

/-- 'gaugerlaw28.DueTells', WHERE WHAT IT READS IS OF BULK AT MOST 1048576: true; the input reads as it did. -/
def dueTellsUptoRow : OpenClaim := { program := "ytpgdogcgdlijeaa", sum := "aa1a0d0ee583113429ab23284e6c1033ec4d4e30f53e72afaa4a851f26bf5dc2", func := "gauger/gaugerlaw28.DueTells", spec := "dueTells", unfollowed := true, recurses := true, apart := false, narrowed := true }
def DueTellsUptoSaid : Prop := dueTellsUptoRow.holds Try.pinned (OpenSpec.upto dueTellsSpec)

/-- 'gaugerlaw28.DueMakes', WHERE WHAT IT READS IS OF BULK AT MOST 1048576: true; the input reads as it did. -/
def dueMakesUptoRow : OpenClaim := { program := "ytpgdogcgdlijeaa", sum := "aa1a0d0ee583113429ab23284e6c1033ec4d4e30f53e72afaa4a851f26bf5dc2", func := "gauger/gaugerlaw28.DueMakes", spec := "dueMakes", unfollowed := true, recurses := true, apart := false, narrowed := true }
def DueMakesUptoSaid : Prop := dueMakesUptoRow.holds Try.pinned (OpenSpec.upto dueMakesSpec)

/-- 'gaugerlaw28.DueSmall', WHERE WHAT IT READS IS OF BULK AT MOST 1048576: true; the input reads as it did. -/
def dueSmallUptoRow : OpenClaim := { program := "ytpgdogcgdlijeaa", sum := "aa1a0d0ee583113429ab23284e6c1033ec4d4e30f53e72afaa4a851f26bf5dc2", func := "gauger/gaugerlaw28.DueSmall", spec := "dueSmall", unfollowed := true, recurses := true, apart := false, narrowed := true }
def DueSmallUptoSaid : Prop := dueSmallUptoRow.holds Try.pinned (OpenSpec.upto dueSmallSpec)

/-- 'gaugerlaw28.DueParts', WHERE WHAT IT READS IS OF BULK AT MOST 1048576: true; the input reads as it did. -/
def duePartsUptoRow : OpenClaim := { program := "ytpgdogcgdlijeaa", sum := "aa1a0d0ee583113429ab23284e6c1033ec4d4e30f53e72afaa4a851f26bf5dc2", func := "gauger/gaugerlaw28.DueParts", spec := "dueParts", unfollowed := true, recurses := true, apart := false, narrowed := true }
def DuePartsUptoSaid : Prop := duePartsUptoRow.holds Try.pinned (OpenSpec.upto duePartsSpec)

/-- 'gaugerlaw28.DueTicks', WHERE WHAT IT READS IS OF BULK AT MOST 1048576: true; the input reads as it did. -/
def dueTicksUptoRow : OpenClaim := { program := "ytpgdogcgdlijeaa", sum := "aa1a0d0ee583113429ab23284e6c1033ec4d4e30f53e72afaa4a851f26bf5dc2", func := "gauger/gaugerlaw28.DueTicks", spec := "dueTicks", unfollowed := true, recurses := true, apart := false, narrowed := true }
def DueTicksUptoSaid : Prop := dueTicksUptoRow.holds Try.pinned (OpenSpec.upto dueTicksSpec)

/-- 'gaugerlaw28.DueNext', WHERE WHAT IT READS IS OF BULK AT MOST 1048576: true; the input reads as it did. -/
def dueNextUptoRow : OpenClaim := { program := "ytpgdogcgdlijeaa", sum := "aa1a0d0ee583113429ab23284e6c1033ec4d4e30f53e72afaa4a851f26bf5dc2", func := "gauger/gaugerlaw28.DueNext", spec := "dueNext", unfollowed := true, recurses := true, apart := false, narrowed := true }
def DueNextUptoSaid : Prop := dueNextUptoRow.holds Try.pinned (OpenSpec.upto dueNextSpec)

/-- 'gaugerlaw28.DueWakes', WHERE WHAT IT READS IS OF BULK AT MOST 1048576: true; the input reads as it did. -/
def dueWakesUptoRow : OpenClaim := { program := "ytpgdogcgdlijeaa", sum := "aa1a0d0ee583113429ab23284e6c1033ec4d4e30f53e72afaa4a851f26bf5dc2", func := "gauger/gaugerlaw28.DueWakes", spec := "dueWakes", unfollowed := true, recurses := true, apart := false, narrowed := true }
def DueWakesUptoSaid : Prop := dueWakesUptoRow.holds Try.pinned (OpenSpec.upto dueWakesSpec)

/-- 'gaugerlaw28.DueSpread', WHERE WHAT IT READS IS OF BULK AT MOST 1048576: true; the input reads as it did. -/
def dueSpreadUptoRow : OpenClaim := { program := "ytpgdogcgdlijeaa", sum := "aa1a0d0ee583113429ab23284e6c1033ec4d4e30f53e72afaa4a851f26bf5dc2", func := "gauger/gaugerlaw28.DueSpread", spec := "dueSpread", unfollowed := true, recurses := true, apart := false, narrowed := true }
def DueSpreadUptoSaid : Prop := dueSpreadUptoRow.holds Try.pinned (OpenSpec.upto dueSpreadSpec)

/-- 'gaugerlaw28.DueWrong', WHERE WHAT IT READS IS OF BULK AT MOST 1048576: true; the input reads as it did. -/
def dueWrongUptoRow : OpenClaim := { program := "ytpgdogcgdlijeaa", sum := "aa1a0d0ee583113429ab23284e6c1033ec4d4e30f53e72afaa4a851f26bf5dc2", func := "gauger/gaugerlaw28.DueWrong", spec := "dueWrong", unfollowed := true, recurses := true, apart := false, narrowed := true }
def DueWrongUptoSaid : Prop := dueWrongUptoRow.holds Try.pinned (OpenSpec.upto dueWrongSpec)

end Rows
end Go.Proofs.Ytpgdogcgdlijeaa
