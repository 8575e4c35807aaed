/- Is of what is not right. Conditions: the plan is not right, or the number is no tick. -/
import Derived.Test.YtpgdogcgdlijeaaD7
namespace Go.Proofs.Ytpgdogcgdlijeaa
open Go.RowKit

set_option maxHeartbeats 16000000 in
theorem is_bad1 (e o m t : Int) (w : World) (hr : Du.right e o m = false) :
    Calls Try.prog 21 #[.agg #[.int .i64 e, .int .i64 o, .int .i64 m], .int .i64 t] w fun x w' => x = .returned (.bool false) ∧ Below w.heap.size w w' := by
  have h1 := Lib.hid (One.start w e o m)
  go_enter Try.func21, Try.ntmps21
  go_wp2
  first | go_region_with (first | (go_at_call 25; refine (right_one (by first | assumption | exact h1.out | exact One.drew h1.out | exact One.drew (by assumption))).mono ?_; rw [hr]; rintro e w9 ⟨rfl, n9⟩)) | fail
  all_goals (go_wp2; go_ret; exact ⟨rfl, One.below (by first | assumption | exact One.drew (by assumption))⟩)

set_option maxHeartbeats 16000000 in
theorem is_bad2 (e o m t : Int) (w : World) (hr : Du.right e o m = true) (ht : Du.tick t = false) :
    Calls Try.prog 21 #[.agg #[.int .i64 e, .int .i64 o, .int .i64 m], .int .i64 t] w fun x w' => x = .returned (.bool false) ∧ Below w.heap.size w w' := by
  have h1 := Lib.hid (One.start w e o m)
  go_enter Try.func21, Try.ntmps21
  go_wp2
  first | go_region_with (first | (go_at_call 25; refine (right_one (by first | assumption | exact h1.out | exact One.drew h1.out | exact One.drew (by assumption))).mono ?_; rw [hr]; rintro e w9 ⟨rfl, n9⟩) | (go_at_call 34; refine (tick_one t (by first | assumption | exact One.drew (by assumption))).mono ?_; rw [ht]; rintro e w9 ⟨rfl, n9⟩)) | fail
  all_goals (go_wp2; go_ret; exact ⟨rfl, One.below (by first | assumption | exact One.drew (by assumption))⟩)
end Go.Proofs.Ytpgdogcgdlijeaa
