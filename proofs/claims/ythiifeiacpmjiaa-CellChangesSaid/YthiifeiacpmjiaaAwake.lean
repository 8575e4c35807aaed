/- The examples of the chapter: awake answers true, and leaves what was there as it was. Conditions: none. -/
import Derived.Test.YthiifeiacpmjiaaCellF
namespace Go.Proofs.Ythiifeiacpmjiaa
open Go.RowKit

set_option maxRecDepth 100000 in
set_option maxHeartbeats 2000000 in
theorem awake_any (w : World) : Calls Try.prog 7 #[] w fun e w' => e = .returned (.bool true) ∧ Below w.heap.size w w' := by
  have c := new_run (W := w) w (Below.refl _ _)
  go_enter Try.func7, Try.ntmps7
  go_wp2_with fail
  refine c.mono ?_
  rintro e w1 ⟨rfl, h1, -⟩
  replace h1 : Run w w1 w.heap.size 0 ⟨0, false, false, 0, 0⟩ := h1
  clear c
  have c1 : Calls Try.prog 9 #[.pointer (some ⟨w.heap.size, 0, none⟩), .int .i64 5] w1 fun e w' => e = .returned (.tuple #[.int .i64 1, .int .i64 0]) ∧ Run w w' w.heap.size 1 ⟨5, true, false, 1, 0⟩ :=
    (put_run 5 (c' := ⟨5, true, false, 1, 0⟩) (n := 1) (er := 0) rfl h1 (by omega)).mono fun _ _ ⟨he, hr, _⟩ => ⟨he.trans rfl, hr⟩
  go_wp2_with fail
  refine c1.mono ?_
  rintro e w2 ⟨rfl, h2⟩
  clear c1 h1
  have c2 : Calls Try.prog 9 #[.pointer (some ⟨w.heap.size, 0, none⟩), .int .i64 7] w2 fun e w' => e = .returned (.tuple #[.int .i64 2, .int .i64 0]) ∧ Run w w' w.heap.size 2 ⟨7, true, false, 2, 1⟩ :=
    (put_run 7 (c' := ⟨7, true, false, 2, 1⟩) (n := 2) (er := 0) rfl h2 (by omega)).mono fun _ _ ⟨he, hr, _⟩ => ⟨he.trans rfl, hr⟩
  go_wp2_with fail
  refine c2.mono ?_
  rintro e w3 ⟨rfl, h3⟩
  clear c2 h2
  have c3 : Calls Try.prog 11 #[.pointer (some ⟨w.heap.size, 0, none⟩)] w3 fun e w' => e = .returned (.int .i64 1) ∧ Run w w' w.heap.size 2 ⟨7, true, false, 2, 1⟩ :=
    (lost_run h3).mono fun _ _ ⟨he, hr, _⟩ => ⟨he.trans rfl, hr⟩
  go_wp2_with fail
  refine c3.mono ?_
  rintro e w4 ⟨rfl, h4⟩
  clear c3 h3
  have c4 : Calls Try.prog 10 #[.pointer (some ⟨w.heap.size, 0, none⟩)] w4 fun e w' => e = .returned (.tuple #[.int .i64 7, .int .i64 2, .bool true]) ∧ Run w w' w.heap.size 2 ⟨7, false, false, 2, 1⟩ :=
    (take_run (x := 7) (n := 2) rfl h4).mono fun _ _ ⟨he, hr, _⟩ => ⟨he.trans rfl, hr⟩
  go_wp2_with fail
  refine c4.mono ?_
  rintro e w5 ⟨rfl, h5⟩
  clear c4 h4
  have c5 : Calls Try.prog 10 #[.pointer (some ⟨w.heap.size, 0, none⟩)] w5 fun e w' => e = .returned (.tuple #[.int .i64 0, .int .i64 0, .bool false]) ∧ Run w w' w.heap.size 2 ⟨7, false, false, 2, 1⟩ :=
    (take_run (x := 0) (n := 0) rfl h5).mono fun _ _ ⟨he, hr, _⟩ => ⟨he.trans rfl, hr⟩
  go_wp2_with fail
  refine c5.mono ?_
  rintro e w6 ⟨rfl, h6⟩
  clear c5 h5
  have c6 : Calls Try.prog 14 #[.pointer (some ⟨w.heap.size, 0, none⟩)] w6 fun e w' => e = .returned (.tuple #[.int .i64 7, .int .i64 2, .bool true]) ∧ Run w w' w.heap.size 2 ⟨7, false, false, 2, 1⟩ :=
    (look_run h6).mono fun _ _ ⟨he, hr, _⟩ => ⟨he.trans rfl, hr⟩
  go_wp2_with fail
  refine c6.mono ?_
  rintro e w7 ⟨rfl, h7⟩
  clear c6 h6
  have c7 : Calls Try.prog 17 #[.pointer (some ⟨w.heap.size, 0, none⟩), .int .i64 1, .int .i64 9] w7 fun e w' => e = .returned (.tuple #[.int .i64 0, .int .i64 391]) ∧ Run w w' w.heap.size 3 ⟨7, false, false, 2, 1⟩ :=
    (change_run 1 9 (c' := ⟨7, false, false, 2, 1⟩) (n := 0) (er := 391) rfl h7 (by omega)).mono fun _ _ ⟨he, hr, _⟩ => ⟨he.trans rfl, hr⟩
  go_wp2_with fail
  refine c7.mono ?_
  rintro e w8 ⟨rfl, h8⟩
  clear c7 h7
  have c8 : Calls Try.prog 17 #[.pointer (some ⟨w.heap.size, 0, none⟩), .int .i64 2, .int .i64 9] w8 fun e w' => e = .returned (.tuple #[.int .i64 3, .int .i64 0]) ∧ Run w w' w.heap.size 4 ⟨9, true, false, 3, 1⟩ :=
    (change_run 2 9 (c' := ⟨9, true, false, 3, 1⟩) (n := 3) (er := 0) rfl h8 (by omega)).mono fun _ _ ⟨he, hr, _⟩ => ⟨he.trans rfl, hr⟩
  go_wp2_with fail
  refine c8.mono ?_
  rintro e w9 ⟨rfl, h9⟩
  clear c8 h8
  have c9 : Calls Try.prog 15 #[.pointer (some ⟨w.heap.size, 0, none⟩)] w9 fun e w' => e = .returned (.bool true) ∧ Run w w' w.heap.size 4 ⟨9, true, true, 3, 1⟩ :=
    (close_run h9).mono fun _ _ ⟨he, hr, _⟩ => ⟨he.trans rfl, hr⟩
  go_wp2_with fail
  refine c9.mono ?_
  rintro e w10 ⟨rfl, h10⟩
  clear c9 h9
  have c10 : Calls Try.prog 15 #[.pointer (some ⟨w.heap.size, 0, none⟩)] w10 fun e w' => e = .returned (.bool false) ∧ Run w w' w.heap.size 4 ⟨9, true, true, 3, 1⟩ :=
    (close_run h10).mono fun _ _ ⟨he, hr, _⟩ => ⟨he.trans rfl, hr⟩
  go_wp2_with fail
  refine c10.mono ?_
  rintro e w11 ⟨rfl, h11⟩
  clear c10 h10
  have c11 : Calls Try.prog 9 #[.pointer (some ⟨w.heap.size, 0, none⟩), .int .i64 1] w11 fun e w' => e = .returned (.tuple #[.int .i64 0, .int .i64 390]) ∧ Run w w' w.heap.size 5 ⟨9, true, true, 3, 1⟩ :=
    (put_run 1 (c' := ⟨9, true, true, 3, 1⟩) (n := 0) (er := 390) rfl h11 (by omega)).mono fun _ _ ⟨he, hr, _⟩ => ⟨he.trans rfl, hr⟩
  go_wp2_with fail
  refine c11.mono ?_
  rintro e w12 ⟨rfl, h12⟩
  clear c11 h11
  have c12 : Calls Try.prog 10 #[.pointer (some ⟨w.heap.size, 0, none⟩)] w12 fun e w' => e = .returned (.tuple #[.int .i64 9, .int .i64 3, .bool true]) ∧ Run w w' w.heap.size 5 ⟨9, false, true, 3, 1⟩ :=
    (take_run (x := 9) (n := 3) rfl h12).mono fun _ _ ⟨he, hr, _⟩ => ⟨he.trans rfl, hr⟩
  go_wp2_with fail
  refine c12.mono ?_
  rintro e w13 ⟨rfl, h13⟩
  clear c12 h12
  have c13 : Calls Try.prog 16 #[.pointer (some ⟨w.heap.size, 0, none⟩)] w13 fun e w' => e = .returned (.bool true) ∧ Run w w' w.heap.size 5 ⟨9, false, true, 3, 1⟩ :=
    (closed_run h13).mono fun _ _ ⟨he, hr, _⟩ => ⟨he.trans rfl, hr⟩
  go_wp2_with fail
  refine c13.mono ?_
  rintro e w14 ⟨rfl, h14⟩
  clear c13 h13
  go_wp2
  go_ret
  exact ⟨rfl, h14.below⟩
end Go.Proofs.Ythiifeiacpmjiaa
