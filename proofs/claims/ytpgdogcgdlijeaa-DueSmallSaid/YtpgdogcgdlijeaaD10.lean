/- What the functions of due answer to plans, ticks and phases that are not right. Conditions: none beyond each theorem's own premises. -/
import Derived.Test.YtpgdogcgdlijeaaD7
namespace Go.Proofs.Ytpgdogcgdlijeaa
open Go.RowKit

set_option maxHeartbeats 4000000 in
theorem next_bad1 (e o m t : Int) (w : World) (hr : Du.right e o m = false) :
    Calls Try.prog 22 #[.agg #[.int .i64 e, .int .i64 o, .int .i64 m], .int .i64 t] w fun x w' => x = .returned (.tuple #[.int .i64 0, .int .i64 2]) ∧ Below w.heap.size w w' := by
  have h1 := Lib.hid (One.start w e o m)
  go_enter Try.func22, Try.ntmps22
  go_wp2_with fail
  refine (right_one h1.out).mono ?_
  rw [hr]
  rintro x w1 ⟨rfl, n1⟩
  obtain ⟨-, p0, p1, p2⟩ := One.all n1
  have HN := Lib.hid n1
  clear n1
  go_wp2
  go_ret2
  exact ⟨rfl, HN.out.below⟩

set_option maxHeartbeats 4000000 in
theorem next_bad2 (e o m t : Int) (w : World) (hr : Du.right e o m = true) (ht : Du.tick t = false) :
    Calls Try.prog 22 #[.agg #[.int .i64 e, .int .i64 o, .int .i64 m], .int .i64 t] w fun x w' => x = .returned (.tuple #[.int .i64 0, .int .i64 2]) ∧ Below w.heap.size w w' := by
  have h1 := Lib.hid (One.start w e o m)
  go_enter Try.func22, Try.ntmps22
  go_wp2_with fail
  refine (right_one h1.out).mono ?_
  rw [hr]
  rintro x w1 ⟨rfl, n1⟩
  obtain ⟨-, p0, p1, p2⟩ := One.all n1
  have HN := Lib.hid n1
  clear n1
  go_wp2_with fail
  refine (tick_any t _).mono ?_
  rw [ht]
  rintro x wx ⟨rfl, rfl⟩
  go_wp2
  go_ret2
  exact ⟨rfl, HN.out.below⟩

set_option maxHeartbeats 4000000 in
theorem last_bad1 (e o m t : Int) (w : World) (hr : Du.right e o m = false) :
    Calls Try.prog 23 #[.agg #[.int .i64 e, .int .i64 o, .int .i64 m], .int .i64 t] w fun x w' => x = .returned (.tuple #[.int .i64 0, .int .i64 2]) ∧ Below w.heap.size w w' := by
  have h1 := Lib.hid (One.start w e o m)
  go_enter Try.func23, Try.ntmps23
  go_wp2_with fail
  refine (right_one h1.out).mono ?_
  rw [hr]
  rintro x w1 ⟨rfl, n1⟩
  obtain ⟨-, p0, p1, p2⟩ := One.all n1
  have HN := Lib.hid n1
  clear n1
  go_wp2
  go_ret2
  exact ⟨rfl, HN.out.below⟩

set_option maxHeartbeats 4000000 in
theorem last_bad2 (e o m t : Int) (w : World) (hr : Du.right e o m = true) (ht : Du.tick t = false) :
    Calls Try.prog 23 #[.agg #[.int .i64 e, .int .i64 o, .int .i64 m], .int .i64 t] w fun x w' => x = .returned (.tuple #[.int .i64 0, .int .i64 2]) ∧ Below w.heap.size w w' := by
  have h1 := Lib.hid (One.start w e o m)
  go_enter Try.func23, Try.ntmps23
  go_wp2_with fail
  refine (right_one h1.out).mono ?_
  rw [hr]
  rintro x w1 ⟨rfl, n1⟩
  obtain ⟨-, p0, p1, p2⟩ := One.all n1
  have HN := Lib.hid n1
  clear n1
  go_wp2_with fail
  refine (tick_any t _).mono ?_
  rw [ht]
  rintro x wx ⟨rfl, rfl⟩
  go_wp2
  go_ret2
  exact ⟨rfl, HN.out.below⟩

set_option maxHeartbeats 4000000 in
theorem count_bad1 (e o m s t : Int) (w : World) (hr : Du.right e o m = false) :
    Calls Try.prog 20 #[.agg #[.int .i64 e, .int .i64 o, .int .i64 m], .int .i64 s, .int .i64 t] w fun x w' => x = .returned (.tuple #[.int .i64 0, .int .i64 2]) ∧ Below w.heap.size w w' := by
  have h1 := Lib.hid (One.start w e o m)
  go_enter Try.func20, Try.ntmps20
  go_wp2_with fail
  refine (right_one h1.out).mono ?_
  rw [hr]
  rintro x w1 ⟨rfl, n1⟩
  obtain ⟨-, p0, p1, p2⟩ := One.all n1
  have HN := Lib.hid n1
  clear n1
  go_wp2
  go_ret2
  exact ⟨rfl, HN.out.below⟩

set_option maxHeartbeats 4000000 in
theorem count_bad2 (e o m s t : Int) (w : World) (hr : Du.right e o m = true) (hs : Du.tick s = false) :
    Calls Try.prog 20 #[.agg #[.int .i64 e, .int .i64 o, .int .i64 m], .int .i64 s, .int .i64 t] w fun x w' => x = .returned (.tuple #[.int .i64 0, .int .i64 2]) ∧ Below w.heap.size w w' := by
  have h1 := Lib.hid (One.start w e o m)
  go_enter Try.func20, Try.ntmps20
  go_wp2_with fail
  refine (right_one h1.out).mono ?_
  rw [hr]
  rintro x w1 ⟨rfl, n1⟩
  obtain ⟨-, p0, p1, p2⟩ := One.all n1
  have HN := Lib.hid n1
  clear n1
  go_wp2_with fail
  refine (tick_any s _).mono ?_
  rw [hs]
  rintro x wx ⟨rfl, rfl⟩
  go_wp2
  go_ret2
  exact ⟨rfl, HN.out.below⟩

set_option maxHeartbeats 4000000 in
theorem count_bad3 (e o m s t : Int) (w : World) (hr : Du.right e o m = true) (hs : Du.tick s = true) (ht : Du.tick t = false) :
    Calls Try.prog 20 #[.agg #[.int .i64 e, .int .i64 o, .int .i64 m], .int .i64 s, .int .i64 t] w fun x w' => x = .returned (.tuple #[.int .i64 0, .int .i64 2]) ∧ Below w.heap.size w w' := by
  have h1 := Lib.hid (One.start w e o m)
  go_enter Try.func20, Try.ntmps20
  go_wp2_with fail
  refine (right_one h1.out).mono ?_
  rw [hr]
  rintro x w1 ⟨rfl, n1⟩
  obtain ⟨-, p0, p1, p2⟩ := One.all n1
  have HN := Lib.hid n1
  clear n1
  go_wp2_with fail
  refine (tick_any s _).mono ?_
  rw [hs]
  rintro x wx ⟨rfl, rfl⟩
  go_wp2_with fail
  refine (tick_any t _).mono ?_
  rw [ht]
  rintro x wx ⟨rfl, rfl⟩
  go_wp2
  go_ret2
  exact ⟨rfl, HN.out.below⟩

set_option maxHeartbeats 4000000 in
theorem count_bad4 (e o m s t : Int) (w : World) (hr : Du.right e o m = true) (hs : Du.tick s = true) (ht : Du.tick t = true) (hts : t < s) :
    Calls Try.prog 20 #[.agg #[.int .i64 e, .int .i64 o, .int .i64 m], .int .i64 s, .int .i64 t] w fun x w' => x = .returned (.tuple #[.int .i64 0, .int .i64 2]) ∧ Below w.heap.size w w' := by
  have h1 := Lib.hid (One.start w e o m)
  have d1 : decide (t < s) = true := decide_eq_true hts
  go_enter Try.func20, Try.ntmps20
  go_wp2_with fail
  refine (right_one h1.out).mono ?_
  rw [hr]
  rintro x w1 ⟨rfl, n1⟩
  obtain ⟨-, p0, p1, p2⟩ := One.all n1
  have HN := Lib.hid n1
  clear n1
  go_wp2_with fail
  refine (tick_any s _).mono ?_
  rw [hs]
  rintro x wx ⟨rfl, rfl⟩
  go_wp2_with fail
  refine (tick_any t _).mono ?_
  rw [ht]
  rintro x wx ⟨rfl, rfl⟩
  go_wp2
  go_ret2
  exact ⟨rfl, HN.out.below⟩

set_option maxHeartbeats 4000000 in
theorem fits_bad1 (e o m st n t : Int) (w : World) (hr : Du.right e o m = false) :
    Calls Try.prog 18 #[.agg #[.int .i64 e, .int .i64 o, .int .i64 m], .agg #[.int .u8 st, .int .i64 n], .int .i64 t] w fun x w' => x = .returned (.bool false) ∧ Below w.heap.size w w' := by
  have h1 := Lib.hid (Two.start w e o m st n)
  go_enter Try.func18, Try.ntmps18
  go_wp2_with fail
  refine (right_two h1.out).mono ?_
  rw [hr]
  rintro x w1 ⟨rfl, n1⟩
  obtain ⟨-, p0, p1, p2, p3, p4⟩ := Two.all n1
  have HN := Lib.hid n1
  clear n1
  go_wp2
  go_ret
  exact ⟨rfl, HN.out.below⟩

set_option maxHeartbeats 4000000 in
theorem fits_bad2 (e o m st n t : Int) (w : World) (hr : Du.right e o m = true) (ht : Du.tick t = false) :
    Calls Try.prog 18 #[.agg #[.int .i64 e, .int .i64 o, .int .i64 m], .agg #[.int .u8 st, .int .i64 n], .int .i64 t] w fun x w' => x = .returned (.bool false) ∧ Below w.heap.size w w' := by
  have h1 := Lib.hid (Two.start w e o m st n)
  go_enter Try.func18, Try.ntmps18
  go_wp2_with fail
  refine (right_two h1.out).mono ?_
  rw [hr]
  rintro x w1 ⟨rfl, n1⟩
  obtain ⟨-, p0, p1, p2, p3, p4⟩ := Two.all n1
  have HN := Lib.hid n1
  clear n1
  go_wp2_with fail
  refine (tick_any t _).mono ?_
  rw [ht]
  rintro x wx ⟨rfl, rfl⟩
  go_wp2
  go_ret
  exact ⟨rfl, HN.out.below⟩

set_option maxHeartbeats 16000000 in
theorem fits_bad3 (e o m st n t : Int) (w : World) (hk : Du.Ok e o m) (ht : Du.tick t = true) (n0 : 0 ≤ n) (n1 : n ≤ 281474976710656) (hs : (st ≠ 0 ∧ st ≠ 1 ∧ st ≠ 2) ∨ (st = 0 ∧ n ≠ 0)) :
    Calls Try.prog 18 #[.agg #[.int .i64 e, .int .i64 o, .int .i64 m], .agg #[.int .u8 st, .int .i64 n], .int .i64 t] w fun x w' => x = .returned (.bool false) ∧ Below w.heap.size w w' := by
  have h1 := Lib.hid (Two.start w e o m st n)
  have hr := right_ok hk
  rcases hs with ⟨h2, h3, h4⟩ | ⟨rfl, h2⟩
  · have d2 : (st == 0) = false := by simp; exact h2
    have d3 : (st == 1) = false := by simp; exact h3
    have d4 : (st == 2) = false := by simp; exact h4
    rcases hd : decide (n ≤ t) with _ | _
    · rcases hq : (n % e == o) with _ | _
      · skip
        go_enter Try.func18, Try.ntmps18
        go_wp2_with fail
        refine (right_two h1.out).mono ?_
        rw [hr]
        rintro x w1 ⟨rfl, n1⟩
        obtain ⟨-, p0, p1, p2, p3, p4⟩ := Two.all n1
        have HN := Lib.hid n1
        clear n1
        go_wp2_with fail
        refine (tick_any t _).mono ?_
        rw [ht]
        rintro x wx ⟨rfl, rfl⟩
        go_wp2_with fail
        refine (is_ok e o m n _ false hk n0 n1 hq).mono ?_
        rintro x w3 ⟨rfl, hb⟩
        have HN3 := Lib.hid (HN.out.on hb)
        obtain ⟨-, q0, q1, q2, q3, q4⟩ := Two.all HN3.out
        clear hb p0 p1 p2 p3 p4
        go_wp2
        go_ret
        exact ⟨rfl, HN3.out.below⟩
      · skip
        go_enter Try.func18, Try.ntmps18
        go_wp2_with fail
        refine (right_two h1.out).mono ?_
        rw [hr]
        rintro x w1 ⟨rfl, n1⟩
        obtain ⟨-, p0, p1, p2, p3, p4⟩ := Two.all n1
        have HN := Lib.hid n1
        clear n1
        go_wp2_with fail
        refine (tick_any t _).mono ?_
        rw [ht]
        rintro x wx ⟨rfl, rfl⟩
        go_wp2_with fail
        refine (is_ok e o m n _ true hk n0 n1 hq).mono ?_
        rintro x w3 ⟨rfl, hb⟩
        have HN3 := Lib.hid (HN.out.on hb)
        obtain ⟨-, q0, q1, q2, q3, q4⟩ := Two.all HN3.out
        clear hb p0 p1 p2 p3 p4
        go_wp2
        go_ret
        exact ⟨rfl, HN3.out.below⟩
    · rcases hq : (n % e == o) with _ | _
      · skip
        go_enter Try.func18, Try.ntmps18
        go_wp2_with fail
        refine (right_two h1.out).mono ?_
        rw [hr]
        rintro x w1 ⟨rfl, n1⟩
        obtain ⟨-, p0, p1, p2, p3, p4⟩ := Two.all n1
        have HN := Lib.hid n1
        clear n1
        go_wp2_with fail
        refine (tick_any t _).mono ?_
        rw [ht]
        rintro x wx ⟨rfl, rfl⟩
        go_wp2_with fail
        refine (is_ok e o m n _ false hk n0 n1 hq).mono ?_
        rintro x w3 ⟨rfl, hb⟩
        have HN3 := Lib.hid (HN.out.on hb)
        obtain ⟨-, q0, q1, q2, q3, q4⟩ := Two.all HN3.out
        clear hb p0 p1 p2 p3 p4
        go_wp2
        go_ret
        exact ⟨rfl, HN3.out.below⟩
      · skip
        go_enter Try.func18, Try.ntmps18
        go_wp2_with fail
        refine (right_two h1.out).mono ?_
        rw [hr]
        rintro x w1 ⟨rfl, n1⟩
        obtain ⟨-, p0, p1, p2, p3, p4⟩ := Two.all n1
        have HN := Lib.hid n1
        clear n1
        go_wp2_with fail
        refine (tick_any t _).mono ?_
        rw [ht]
        rintro x wx ⟨rfl, rfl⟩
        go_wp2_with fail
        refine (is_ok e o m n _ true hk n0 n1 hq).mono ?_
        rintro x w3 ⟨rfl, hb⟩
        have HN3 := Lib.hid (HN.out.on hb)
        obtain ⟨-, q0, q1, q2, q3, q4⟩ := Two.all HN3.out
        clear hb p0 p1 p2 p3 p4
        go_wp2
        go_ret
        exact ⟨rfl, HN3.out.below⟩
  · have d2 : (n == 0) = false := by simp; exact h2
    rcases hd : decide (n ≤ t) with _ | _
    · rcases hq : (n % e == o) with _ | _
      · skip
        go_enter Try.func18, Try.ntmps18
        go_wp2_with fail
        refine (right_two h1.out).mono ?_
        rw [hr]
        rintro x w1 ⟨rfl, n1⟩
        obtain ⟨-, p0, p1, p2, p3, p4⟩ := Two.all n1
        have HN := Lib.hid n1
        clear n1
        go_wp2_with fail
        refine (tick_any t _).mono ?_
        rw [ht]
        rintro x wx ⟨rfl, rfl⟩
        go_wp2_with fail
        refine (is_ok e o m n _ false hk n0 n1 hq).mono ?_
        rintro x w3 ⟨rfl, hb⟩
        have HN3 := Lib.hid (HN.out.on hb)
        obtain ⟨-, q0, q1, q2, q3, q4⟩ := Two.all HN3.out
        clear hb p0 p1 p2 p3 p4
        go_wp2
        go_ret
        exact ⟨rfl, HN3.out.below⟩
      · skip
        go_enter Try.func18, Try.ntmps18
        go_wp2_with fail
        refine (right_two h1.out).mono ?_
        rw [hr]
        rintro x w1 ⟨rfl, n1⟩
        obtain ⟨-, p0, p1, p2, p3, p4⟩ := Two.all n1
        have HN := Lib.hid n1
        clear n1
        go_wp2_with fail
        refine (tick_any t _).mono ?_
        rw [ht]
        rintro x wx ⟨rfl, rfl⟩
        go_wp2_with fail
        refine (is_ok e o m n _ true hk n0 n1 hq).mono ?_
        rintro x w3 ⟨rfl, hb⟩
        have HN3 := Lib.hid (HN.out.on hb)
        obtain ⟨-, q0, q1, q2, q3, q4⟩ := Two.all HN3.out
        clear hb p0 p1 p2 p3 p4
        go_wp2
        go_ret
        exact ⟨rfl, HN3.out.below⟩
    · rcases hq : (n % e == o) with _ | _
      · skip
        go_enter Try.func18, Try.ntmps18
        go_wp2_with fail
        refine (right_two h1.out).mono ?_
        rw [hr]
        rintro x w1 ⟨rfl, n1⟩
        obtain ⟨-, p0, p1, p2, p3, p4⟩ := Two.all n1
        have HN := Lib.hid n1
        clear n1
        go_wp2_with fail
        refine (tick_any t _).mono ?_
        rw [ht]
        rintro x wx ⟨rfl, rfl⟩
        go_wp2_with fail
        refine (is_ok e o m n _ false hk n0 n1 hq).mono ?_
        rintro x w3 ⟨rfl, hb⟩
        have HN3 := Lib.hid (HN.out.on hb)
        obtain ⟨-, q0, q1, q2, q3, q4⟩ := Two.all HN3.out
        clear hb p0 p1 p2 p3 p4
        go_wp2
        go_ret
        exact ⟨rfl, HN3.out.below⟩
      · skip
        go_enter Try.func18, Try.ntmps18
        go_wp2_with fail
        refine (right_two h1.out).mono ?_
        rw [hr]
        rintro x w1 ⟨rfl, n1⟩
        obtain ⟨-, p0, p1, p2, p3, p4⟩ := Two.all n1
        have HN := Lib.hid n1
        clear n1
        go_wp2_with fail
        refine (tick_any t _).mono ?_
        rw [ht]
        rintro x wx ⟨rfl, rfl⟩
        go_wp2_with fail
        refine (is_ok e o m n _ true hk n0 n1 hq).mono ?_
        rintro x w3 ⟨rfl, hb⟩
        have HN3 := Lib.hid (HN.out.on hb)
        obtain ⟨-, q0, q1, q2, q3, q4⟩ := Two.all HN3.out
        clear hb p0 p1 p2 p3 p4
        go_wp2
        go_ret
        exact ⟨rfl, HN3.out.below⟩

set_option maxHeartbeats 4000000 in
theorem fits_bad4 (e o m st n t : Int) (w : World) (hk : Du.Ok e o m) (ht : Du.tick t = true) (n0 : 0 ≤ n) (n1 : n ≤ 281474976710656) (hst : st = 1) (hq : (n % e == o) = true) (hl : n ≤ t) (hx : n + m ≤ t) :
    Calls Try.prog 18 #[.agg #[.int .i64 e, .int .i64 o, .int .i64 m], .agg #[.int .u8 st, .int .i64 n], .int .i64 t] w fun x w' => x = .returned (.bool false) ∧ Below w.heap.size w w' := by
  have h1 := Lib.hid (Two.start w e o m st n)
  have hr := right_ok hk
  have m1 := hk.m1
  have m2 := hk.m2
  have e2 := hk.e2
  subst hst
  have d1 : decide (n ≤ t) = true := decide_eq_true hl
  have d2 : decide (t < n + m) = false := decide_eq_false (by omega)
  have g1 : IntKind.i64.wrap (n + m) = n + m := IntWalk.i64_in _ (by omega)
  go_enter Try.func18, Try.ntmps18
  go_wp2_with fail
  refine (right_two h1.out).mono ?_
  rw [hr]
  rintro x w1 ⟨rfl, n1⟩
  obtain ⟨-, p0, p1, p2, p3, p4⟩ := Two.all n1
  have HN := Lib.hid n1
  clear n1
  go_wp2_with fail
  refine (tick_any t _).mono ?_
  rw [ht]
  rintro x wx ⟨rfl, rfl⟩
  go_wp2_with fail
  refine (is_ok e o m n _ true hk n0 n1 hq).mono ?_
  rintro x w3 ⟨rfl, hb⟩
  have HN3 := Lib.hid (HN.out.on hb)
  obtain ⟨-, q0, q1, q2, q3, q4⟩ := Two.all HN3.out
  clear hb p0 p1 p2 p3 p4
  go_wp2
  go_ret
  exact ⟨rfl, HN3.out.below⟩

end Go.Proofs.Ytpgdogcgdlijeaa
