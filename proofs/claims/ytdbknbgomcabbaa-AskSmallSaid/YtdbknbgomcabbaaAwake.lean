/- The examples of the chapter: awake answers true, and leaves what was there as it was. Conditions: none. -/
import Derived.Test.YtdbknbgomcabbaaA6
namespace Go.Proofs.Ytdbknbgomcabbaa
open Go.RowKit

set_option maxRecDepth 100000 in
set_option maxHeartbeats 1000000 in
theorem awake_any (w : World) :
    Calls Try.prog 12 #[] w fun e w' => e = .returned (.bool true) ∧ Below w.heap.size w w' := by
  have c := new_run (W := w) 5 10 w (by omega) (by omega) (by omega) (by omega) (Below.refl _ _)
  go_enter Try.func12, Try.ntmps12
  go_wp2_with fail
  refine c.mono ?_
  rintro e w1 ⟨rfl, h1, -⟩
  replace h1 : Run w w1 w.heap.size 1 ⟨1, 0, 0, 0, 0, 0, false, 5, 10, 5, 1, 5⟩ := h1
  clear c
  have c1 : Calls Try.prog 14 #[.pointer (some ⟨w.heap.size, 0, none⟩)] w1 fun e w' => e = .returned (.tuple #[.int .i64 1, .int .i64 5]) ∧ Run w w' w.heap.size 1 ⟨1, 0, 0, 0, 0, 0, false, 5, 10, 5, 1, 5⟩ :=
    (open_run h1).mono fun _ _ ⟨he, hr, _⟩ => ⟨he.trans rfl, hr⟩
  go_wp2_with fail
  refine c1.mono ?_
  rintro e w2 ⟨rfl, h2⟩
  clear c1 h1
  have c2 : Calls Try.prog 13 #[.pointer (some ⟨w.heap.size, 0, none⟩), .int .i64 14] w2 fun e w' => e = .returned (.tuple #[.int .i64 0, .int .i64 0]) ∧ Run w w' w.heap.size 2 ⟨1, 0, 0, 0, 0, 0, false, 5, 10, 14, 1, 5⟩ :=
    (move_run 14 h2 (by omega)).mono fun _ _ ⟨he, hr, _⟩ => ⟨he.trans rfl, hr⟩
  go_wp2_with fail
  refine c2.mono ?_
  rintro e w3 ⟨rfl, h3⟩
  clear c2 h2
  have c3 : Calls Try.prog 17 #[.pointer (some ⟨w.heap.size, 0, none⟩), .int .i64 1, .bool true] w3 fun e w' => e = .returned (.bool true) ∧ Run w w' w.heap.size 3 ⟨1, 1, 0, 0, 0, 0, false, 5, 10, 14, 0, 0⟩ :=
    (answer_run 1 true h3 (by omega)).mono fun _ _ ⟨he, hr, _⟩ => ⟨he.trans rfl, hr⟩
  go_wp2_with fail
  refine c3.mono ?_
  rintro e w4 ⟨rfl, h4⟩
  clear c3 h3
  have c4 : Calls Try.prog 13 #[.pointer (some ⟨w.heap.size, 0, none⟩), .int .i64 15] w4 fun e w' => e = .returned (.tuple #[.int .i64 2, .int .i64 0]) ∧ Run w w' w.heap.size 4 ⟨2, 1, 0, 0, 0, 0, false, 5, 10, 15, 2, 15⟩ :=
    (move_run 15 h4 (by omega)).mono fun _ _ ⟨he, hr, _⟩ => ⟨he.trans rfl, hr⟩
  go_wp2_with fail
  refine c4.mono ?_
  rintro e w5 ⟨rfl, h5⟩
  clear c4 h4
  have c5 : Calls Try.prog 15 #[.pointer (some ⟨w.heap.size, 0, none⟩)] w5 fun e w' => e = .returned (.tuple #[.int .i64 25, .bool true]) ∧ Run w w' w.heap.size 4 ⟨2, 1, 0, 0, 0, 0, false, 5, 10, 15, 2, 15⟩ :=
    (next_run h5).mono fun _ _ ⟨he, hr, _⟩ => ⟨he.trans rfl, hr⟩
  go_wp2_with fail
  refine c5.mono ?_
  rintro e w6 ⟨rfl, h6⟩
  clear c5 h5
  have c6 : Calls Try.prog 13 #[.pointer (some ⟨w.heap.size, 0, none⟩), .int .i64 45] w6 fun e w' => e = .returned (.tuple #[.int .i64 3, .int .i64 0]) ∧ Run w w' w.heap.size 5 ⟨3, 1, 0, 1, 2, 0, false, 5, 10, 45, 3, 45⟩ :=
    (move_run 45 h6 (by omega)).mono fun _ _ ⟨he, hr, _⟩ => ⟨he.trans rfl, hr⟩
  go_wp2_with fail
  refine c6.mono ?_
  rintro e w7 ⟨rfl, h7⟩
  clear c6 h6
  have c7 : Calls Try.prog 14 #[.pointer (some ⟨w.heap.size, 0, none⟩)] w7 fun e w' => e = .returned (.tuple #[.int .i64 3, .int .i64 45]) ∧ Run w w' w.heap.size 5 ⟨3, 1, 0, 1, 2, 0, false, 5, 10, 45, 3, 45⟩ :=
    (open_run h7).mono fun _ _ ⟨he, hr, _⟩ => ⟨he.trans rfl, hr⟩
  go_wp2_with fail
  refine c7.mono ?_
  rintro e w8 ⟨rfl, h8⟩
  clear c7 h7
  have c8 : Calls Try.prog 17 #[.pointer (some ⟨w.heap.size, 0, none⟩), .int .i64 2, .bool true] w8 fun e w' => e = .returned (.bool false) ∧ Run w w' w.heap.size 6 ⟨3, 1, 0, 1, 2, 1, false, 5, 10, 45, 3, 45⟩ :=
    (answer_run 2 true h8 (by omega)).mono fun _ _ ⟨he, hr, _⟩ => ⟨he.trans rfl, hr⟩
  go_wp2_with fail
  refine c8.mono ?_
  rintro e w9 ⟨rfl, h9⟩
  clear c8 h8
  have c9 : Calls Try.prog 18 #[.pointer (some ⟨w.heap.size, 0, none⟩)] w9 fun e w' => e = .returned (.bool true) ∧ Run w w' w.heap.size 7 ⟨3, 1, 0, 2, 2, 1, true, 5, 10, 45, 0, 0⟩ :=
    (stop_run h9 (by omega)).mono fun _ _ ⟨he, hr, _⟩ => ⟨he.trans rfl, hr⟩
  go_wp2_with fail
  refine c9.mono ?_
  rintro e w10 ⟨rfl, h10⟩
  clear c9 h9
  have c10 : Calls Try.prog 19 #[.pointer (some ⟨w.heap.size, 0, none⟩)] w10 fun e w' => e = .returned (.agg #[.int .i64 3, .int .i64 1, .int .i64 0, .int .i64 2, .int .i64 2, .int .i64 1]) ∧ Run w w' w.heap.size 7 ⟨3, 1, 0, 2, 2, 1, true, 5, 10, 45, 0, 0⟩ :=
    (counts_run h10).mono fun _ _ ⟨he, hr, _⟩ => ⟨he.trans rfl, hr⟩
  go_wp2_with fail
  refine c10.mono ?_
  rintro e w11 ⟨rfl, h11⟩
  clear c10 h10
  go_wp2
  go_ret
  exact ⟨rfl, h11.below⟩
end Go.Proofs.Ytdbknbgomcabbaa
