/- The examples of the chapter: awake answers true, and leaves what was there as it was. Conditions: none. -/
import Derived.Test.YthbefhpgpebkgaaTSE
import Derived.Outline
namespace Go.Proofs.Ythbefhpgpebkgaa
open Go.RowKit

set_option maxRecDepth 100000 in
set_option maxHeartbeats 1000000 in
theorem awake_any (w : World) :
    Calls Try.prog 11 #[] w fun e w' => e = .returned (.bool true) ∧ Below w.heap.size w w' := by
  have c := TS.new_run (W := w) 10 w (by omega) (by omega) (Below.refl _ _)
  go_enter Try.func11, Try.ntmps11
  go_wp2_with fail
  refine c.mono ?_
  rintro e w1 ⟨rfl, h1, -⟩
  replace h1 : TS.Run w w1 w.heap.size 0 ⟨10, 0, false, ⟨#[]⟩, false, 0, 0, 0, 0⟩ := h1
  clear c
  have c1 : Calls Try.prog 30 #[.pointer (some ⟨w.heap.size, 0, none⟩), .string ⟨#[97]⟩] w1 fun e w' => e = .returned (.int .i64 0) ∧ TS.Run w w' w.heap.size 1 ⟨10, 0, true, ⟨#[97]⟩, false, 0, 1, 0, 0⟩ :=
    (TS.offer_run ⟨#[97]⟩ h1 (by omega)).mono fun _ _ ⟨he, hr, _⟩ => ⟨he.trans rfl, hr⟩
  go_wp2_with fail
  refine c1.mono ?_
  rintro e w2 ⟨rfl, h2⟩
  clear c1 h1
  have c2 : Calls Try.prog 31 #[.pointer (some ⟨w.heap.size, 0, none⟩)] w2 fun e w' => e = .returned (.tuple #[.string ⟨#[97]⟩, .bool true]) ∧ TS.Run w w' w.heap.size 2 ⟨10, 0, false, ⟨#[]⟩, true, 0, 1, 1, 0⟩ :=
    (TS.take_run h2 (by omega)).mono fun _ _ ⟨he, hr, _⟩ => ⟨he.trans rfl, hr⟩
  go_wp2_with fail
  refine c2.mono ?_
  rintro e w3 ⟨rfl, h3⟩
  clear c2 h2
  have c3 : Calls Try.prog 30 #[.pointer (some ⟨w.heap.size, 0, none⟩), .string ⟨#[98]⟩] w3 fun e w' => e = .returned (.int .i64 0) ∧ TS.Run w w' w.heap.size 3 ⟨10, 0, true, ⟨#[98]⟩, true, 0, 2, 1, 0⟩ :=
    (TS.offer_run ⟨#[98]⟩ h3 (by omega)).mono fun _ _ ⟨he, hr, _⟩ => ⟨he.trans rfl, hr⟩
  go_wp2_with fail
  refine c3.mono ?_
  rintro e w4 ⟨rfl, h4⟩
  clear c3 h3
  have c4 : Calls Try.prog 31 #[.pointer (some ⟨w.heap.size, 0, none⟩)] w4 fun e w' => e = .returned (.tuple #[.string ⟨#[]⟩, .bool false]) ∧ TS.Run w w' w.heap.size 4 ⟨10, 0, true, ⟨#[98]⟩, true, 0, 2, 1, 0⟩ :=
    (TS.take_run h4 (by omega)).mono fun _ _ ⟨he, hr, _⟩ => ⟨he.trans rfl, hr⟩
  go_wp2_with fail
  refine c4.mono ?_
  rintro e w5 ⟨rfl, h5⟩
  clear c4 h4
  have c5 : Calls Try.prog 32 #[.pointer (some ⟨w.heap.size, 0, none⟩)] w5 fun e w' => e = .returned (.tuple #[.int .i64 10, .bool true]) ∧ TS.Run w w' w.heap.size 4 ⟨10, 0, true, ⟨#[98]⟩, true, 0, 2, 1, 0⟩ :=
    (TS.next_run h5).mono fun _ _ ⟨he, hr, _⟩ => ⟨he.trans rfl, hr⟩
  go_wp2_with fail
  refine c5.mono ?_
  rintro e w6 ⟨rfl, h6⟩
  clear c5 h5
  have c6 : Calls Try.prog 33 #[.pointer (some ⟨w.heap.size, 0, none⟩), .int .i64 9] w6 fun e w' => e = .returned (.int .i64 0) ∧ TS.Run w w' w.heap.size 4 ⟨10, 9, true, ⟨#[98]⟩, true, 0, 2, 1, 0⟩ :=
    (TS.move_run 9 h6).mono fun _ _ ⟨he, hr, _⟩ => ⟨he.trans rfl, hr⟩
  go_wp2_with fail
  refine c6.mono ?_
  rintro e w7 ⟨rfl, h7⟩
  clear c6 h6
  have c7 : Calls Try.prog 30 #[.pointer (some ⟨w.heap.size, 0, none⟩), .string ⟨#[99]⟩] w7 fun e w' => e = .returned (.int .i64 0) ∧ TS.Run w w' w.heap.size 5 ⟨10, 9, true, ⟨#[99]⟩, true, 0, 3, 1, 1⟩ :=
    (TS.offer_run ⟨#[99]⟩ h7 (by omega)).mono fun _ _ ⟨he, hr, _⟩ => ⟨he.trans rfl, hr⟩
  go_wp2_with fail
  refine c7.mono ?_
  rintro e w8 ⟨rfl, h8⟩
  clear c7 h7
  have c8 : Calls Try.prog 31 #[.pointer (some ⟨w.heap.size, 0, none⟩)] w8 fun e w' => e = .returned (.tuple #[.string ⟨#[]⟩, .bool false]) ∧ TS.Run w w' w.heap.size 6 ⟨10, 9, true, ⟨#[99]⟩, true, 0, 3, 1, 1⟩ :=
    (TS.take_run h8 (by omega)).mono fun _ _ ⟨he, hr, _⟩ => ⟨he.trans rfl, hr⟩
  go_wp2_with fail
  refine c8.mono ?_
  rintro e w9 ⟨rfl, h9⟩
  clear c8 h8
  have c9 : Calls Try.prog 33 #[.pointer (some ⟨w.heap.size, 0, none⟩), .int .i64 10] w9 fun e w' => e = .returned (.int .i64 0) ∧ TS.Run w w' w.heap.size 6 ⟨10, 10, true, ⟨#[99]⟩, true, 0, 3, 1, 1⟩ :=
    (TS.move_run 10 h9).mono fun _ _ ⟨he, hr, _⟩ => ⟨he.trans rfl, hr⟩
  go_wp2_with fail
  refine c9.mono ?_
  rintro e w10 ⟨rfl, h10⟩
  clear c9 h9
  have c10 : Calls Try.prog 31 #[.pointer (some ⟨w.heap.size, 0, none⟩)] w10 fun e w' => e = .returned (.tuple #[.string ⟨#[99]⟩, .bool true]) ∧ TS.Run w w' w.heap.size 7 ⟨10, 10, false, ⟨#[]⟩, true, 10, 3, 2, 1⟩ :=
    (TS.take_run h10 (by omega)).mono fun _ _ ⟨he, hr, _⟩ => ⟨he.trans rfl, hr⟩
  go_wp2_with fail
  refine c10.mono ?_
  rintro e w11 ⟨rfl, h11⟩
  clear c10 h10
  have c11 : Calls Try.prog 34 #[.pointer (some ⟨w.heap.size, 0, none⟩)] w11 fun e w' => e = .returned (.tuple #[.int .i64 3, .int .i64 2, .int .i64 1]) ∧ TS.Run w w' w.heap.size 7 ⟨10, 10, false, ⟨#[]⟩, true, 10, 3, 2, 1⟩ :=
    (TS.counts_run h11).mono fun _ _ ⟨he, hr, _⟩ => ⟨he.trans rfl, hr⟩
  go_wp2_with fail
  refine c11.mono ?_
  rintro e w12 ⟨rfl, h12⟩
  clear c11 h11
  have c12 : Calls Try.prog 33 #[.pointer (some ⟨w.heap.size, 0, none⟩), .int .i64 25] w12 fun e w' => e = .returned (.int .i64 0) ∧ TS.Run w w' w.heap.size 7 ⟨10, 25, false, ⟨#[]⟩, true, 10, 3, 2, 1⟩ :=
    (TS.move_run 25 h12).mono fun _ _ ⟨he, hr, _⟩ => ⟨he.trans rfl, hr⟩
  go_wp2_with fail
  refine c12.mono ?_
  rintro e w13 ⟨rfl, h13⟩
  clear c12 h12
  have c13 : Calls Try.prog 30 #[.pointer (some ⟨w.heap.size, 0, none⟩), .string ⟨#[100]⟩] w13 fun e w' => e = .returned (.int .i64 0) ∧ TS.Run w w' w.heap.size 8 ⟨10, 25, true, ⟨#[100]⟩, true, 10, 4, 2, 1⟩ :=
    (TS.offer_run ⟨#[100]⟩ h13 (by omega)).mono fun _ _ ⟨he, hr, _⟩ => ⟨he.trans rfl, hr⟩
  go_wp2_with fail
  refine c13.mono ?_
  rintro e w14 ⟨rfl, h14⟩
  clear c13 h13
  have c14 : Calls Try.prog 32 #[.pointer (some ⟨w.heap.size, 0, none⟩)] w14 fun e w' => e = .returned (.tuple #[.int .i64 25, .bool true]) ∧ TS.Run w w' w.heap.size 8 ⟨10, 25, true, ⟨#[100]⟩, true, 10, 4, 2, 1⟩ :=
    (TS.next_run h14).mono fun _ _ ⟨he, hr, _⟩ => ⟨he.trans rfl, hr⟩
  go_wp2_with fail
  refine c14.mono ?_
  rintro e w15 ⟨rfl, h15⟩
  clear c14 h14
  have c15 : Calls Try.prog 31 #[.pointer (some ⟨w.heap.size, 0, none⟩)] w15 fun e w' => e = .returned (.tuple #[.string ⟨#[100]⟩, .bool true]) ∧ TS.Run w w' w.heap.size 9 ⟨10, 25, false, ⟨#[]⟩, true, 25, 4, 3, 1⟩ :=
    (TS.take_run h15 (by omega)).mono fun _ _ ⟨he, hr, _⟩ => ⟨he.trans rfl, hr⟩
  go_wp2_with fail
  refine c15.mono ?_
  rintro e w16 ⟨rfl, h16⟩
  clear c15 h15
  have c16 : Calls Try.prog 32 #[.pointer (some ⟨w.heap.size, 0, none⟩)] w16 fun e w' => e = .returned (.tuple #[.int .i64 0, .bool false]) ∧ TS.Run w w' w.heap.size 9 ⟨10, 25, false, ⟨#[]⟩, true, 25, 4, 3, 1⟩ :=
    (TS.next_run h16).mono fun _ _ ⟨he, hr, _⟩ => ⟨he.trans rfl, hr⟩
  go_wp2_with fail
  refine c16.mono ?_
  rintro e w17 ⟨rfl, h17⟩
  clear c16 h16
  go_wp2
  go_ret
  exact ⟨rfl, h17.below⟩
end Go.Proofs.Ythbefhpgpebkgaa
