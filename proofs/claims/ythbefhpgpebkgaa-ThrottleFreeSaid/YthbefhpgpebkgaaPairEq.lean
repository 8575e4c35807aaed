/- '==' on pairs of numbers ([2]int). Conditions: none. -/
import Derived.Test.YthbefhpgpebkgaaRows
import Derived.WalkKit
import Derived.ChangeKeysEq
namespace Go.Proofs.Ythbefhpgpebkgaa
open Go.RowKit

theorem eq_pair (w : World) (a b c d : Int) : (Op.equalIn 10000 42 (.agg #[.int .i64 a, .int .i64 b]) (.agg #[.int .i64 c, .int .i64 d])).run Try.prog w = .ok (a == c && b == d) w := by
  obtain ⟨i, hi, _⟩ : ∃ i, Try.prog.info? 3 = some i ∧ True := ⟨_, rfl, trivial⟩
  have hc : Try.prog.cellsOf 3 = 1 := by kernel_rfl
  rw [run_equalIn_array (P := Try.prog) (w := w) 9999 _ _ Try.underlying42 hi, hc]
  have e : List.range 2 = [0, 1] := rfl
  rw [e]
  have p : ∀ (x y : Int) (W : World), (part 3 #[.int .i64 x, .int .i64 y] 0).run Try.prog W = .ok (.int .i64 x) W := fun x y W => by kernel_rfl
  have q : ∀ (x y : Int) (W : World), (part 3 #[.int .i64 x, .int .i64 y] 1).run Try.prog W = .ok (.int .i64 y) W := fun x y W => by kernel_rfl
  simp only [Op.eqItems, Nat.zero_mul, Nat.one_mul, Sem.run_bind, p, q, Result.andThen_ok, run_equalIn_int _ _ _ _ _ _ _ Try.underlying3, Sem.run_ite]
  cases h : (a == c) <;> cases h2 : (b == d) <;> simp
end Go.Proofs.Ythbefhpgpebkgaa
