/- Words for DueWrong. Conditions: none beyond the premises. -/
import Derived.Test.YtpgdogcgdlijeaaAwake
import Derived.Test.YtpgdogcgdlijeaaD9
import Derived.Test.YtpgdogcgdlijeaaD11
import Derived.BigGuard
namespace Go.Proofs.Ytpgdogcgdlijeaa
open Go.RowKit
theorem ite_min (a b : Int) : ∃ m : Int, (if a < b then a else b) = m ∧ m ≤ a ∧ m ≤ b := by
  refine ⟨_, rfl, ?_⟩
  split <;> omega
theorem ite_max (a b : Int) : ∃ m : Int, (if b < a then a else b) = m ∧ a ≤ m ∧ b ≤ m := by
  refine ⟨_, rfl, ?_⟩
  split <;> omega
theorem right_no (e o m : Int) (w : World) (hr : Du.right e o m = false) :
    Calls Try.prog 25 #[.agg #[.int .i64 e, .int .i64 o, .int .i64 m]] w fun x w' => x = .returned (.bool false) ∧ Below w.heap.size w w' :=
  (right_any e o m w).mono fun _ _ ⟨he, k⟩ => ⟨by rw [he, hr], k⟩
theorem count_odd (e o m a b : Int) (hr : Du.right e o m = true) (h : Du.tick a = false ∨ (Du.tick a = true ∧ Du.tick b = false)) (w : World) :
    Calls Try.prog 20 #[.agg #[.int .i64 e, .int .i64 o, .int .i64 m], .int .i64 a, .int .i64 b] w fun x w' => x = .returned (.tuple #[.int .i64 0, .int .i64 2]) ∧ Below w.heap.size w w' := by
  rcases h with h | ⟨h, h2⟩
  · exact count_bad2 e o m a b w hr h
  · exact count_bad3 e o m a b w hr h h2
theorem Kp.less {W0 W : World} {L L' : List (Nat × TypeId × Array Value)} (h : Kp W0 L W) (hs : ∀ x ∈ L', x ∈ L) : Kp W0 L' W := ⟨h.below, fun x hx => h.has x (hs x hx)⟩

end Go.Proofs.Ytpgdogcgdlijeaa
