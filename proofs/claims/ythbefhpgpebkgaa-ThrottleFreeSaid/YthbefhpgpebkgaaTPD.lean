/- The throttle's methods at [2]int, walked one by one: each answers, and leaves the throttle, as the plain functions say. Conditions: the receiver is a throttle that was made, its numbers in bounds. -/
import Derived.Test.YthbefhpgpebkgaaRows
import Derived.Test.YthbefhpgpebkgaaMem
import Derived.Test.YthbefhpgpebkgaaPlain
import Derived.Test.YthbefhpgpebkgaaTPB
import Derived.WalkSpells
import Derived.WalkLawsBesides
import Derived.BigQuiet
import Derived.Lib.Hide
namespace Go.Proofs.Ythbefhpgpebkgaa.TP
open Go.RowKit

theorem new_yes (n : Int) (w : World) (h0 : 0 ≤ n) (h1 : n ≤ 1048576) :
    Calls Try.prog 19 #[.int .i64 n] w fun e w' => e = .returned (.tuple #[.pointer (some ⟨w.heap.size, 0, none⟩), .int .i64 0]) ∧ w.alloc (.cells (cells (Thr.fresh (0, 0) n)) 76) = w' := by
  go_enter Try.func19, Try.ntmps19
  go_wp2
  go_ret2
  exact ⟨rfl, rfl⟩

theorem new_no (n : Int) (w : World) (h : n < 0 ∨ 1048576 < n) :
    Calls Try.prog 19 #[.int .i64 n] w fun e w' => e = .returned (.tuple #[.pointer none, .int .i64 2]) ∧ w = w' := by
  rcases h with h | h
  · go_enter Try.func19, Try.ntmps19
    go_wp2
    go_ret2
    exact ⟨rfl, rfl⟩
  · have h2 : ¬ n < 0 := by omega
    go_enter Try.func19, Try.ntmps19
    go_wp2
    go_ret2
    exact ⟨rfl, rfl⟩
end Go.Proofs.Ythbefhpgpebkgaa.TP
