/- The reference's functions, walked (2): Next, Last. Conditions: none beyond each theorem's own premises. -/
import Derived.Test.YtpgdogcgdlijeaaR1
import Derived.Test.YtpgdogcgdlijeaaRPlain
namespace Go.Proofs.Ytpgdogcgdlijeaa
open Go.RowKit

set_option maxHeartbeats 4000000 in
theorem rnext_bad1 (e o m t : Int) (w : World) (hr : Du.right e o m = false) :
    Calls Try.prog 28 #[.agg #[.int .i64 e, .int .i64 o, .int .i64 m], .int .i64 t] w fun x w' => x = .returned (.tuple #[.int .i64 0, .int .i64 2]) ∧ Below w.heap.size w w' := by
  have h1 := Lib.hid (Ron.start w e o m)
  go_enter Try.func28, Try.ntmps28
  go_wp2_with fail
  refine (right_ron h1.out).mono ?_
  rw [hr]
  rintro x w1 ⟨rfl, n1⟩
  obtain ⟨-, p0, p1, p2⟩ := Ron.all n1
  have HN := Lib.hid n1
  clear n1
  go_wp2
  go_ret2
  exact ⟨rfl, HN.out.below⟩

set_option maxHeartbeats 4000000 in
theorem rnext_bad2 (e o m t : Int) (w : World) (hr : Du.right e o m = true) (ht : Du.tick t = false) :
    Calls Try.prog 28 #[.agg #[.int .i64 e, .int .i64 o, .int .i64 m], .int .i64 t] w fun x w' => x = .returned (.tuple #[.int .i64 0, .int .i64 2]) ∧ Below w.heap.size w w' := by
  have h1 := Lib.hid (Ron.start w e o m)
  go_enter Try.func28, Try.ntmps28
  go_wp2_with fail
  refine (right_ron h1.out).mono ?_
  rw [hr]
  rintro x w1 ⟨rfl, n1⟩
  obtain ⟨-, p0, p1, p2⟩ := Ron.all n1
  have HN := Lib.hid n1
  clear n1
  go_wp2_with fail
  refine (rtick_any t _).mono ?_
  rw [ht]
  rintro x wx ⟨rfl, rfl⟩
  go_wp2
  go_ret2
  exact ⟨rfl, HN.out.below⟩

set_option maxHeartbeats 4000000 in
theorem rlast_bad1 (e o m t : Int) (w : World) (hr : Du.right e o m = false) :
    Calls Try.prog 29 #[.agg #[.int .i64 e, .int .i64 o, .int .i64 m], .int .i64 t] w fun x w' => x = .returned (.tuple #[.int .i64 0, .int .i64 2]) ∧ Below w.heap.size w w' := by
  have h1 := Lib.hid (Ron.start w e o m)
  go_enter Try.func29, Try.ntmps29
  go_wp2_with fail
  refine (right_ron h1.out).mono ?_
  rw [hr]
  rintro x w1 ⟨rfl, n1⟩
  obtain ⟨-, p0, p1, p2⟩ := Ron.all n1
  have HN := Lib.hid n1
  clear n1
  go_wp2
  go_ret2
  exact ⟨rfl, HN.out.below⟩

set_option maxHeartbeats 4000000 in
theorem rlast_bad2 (e o m t : Int) (w : World) (hr : Du.right e o m = true) (ht : Du.tick t = false) :
    Calls Try.prog 29 #[.agg #[.int .i64 e, .int .i64 o, .int .i64 m], .int .i64 t] w fun x w' => x = .returned (.tuple #[.int .i64 0, .int .i64 2]) ∧ Below w.heap.size w w' := by
  have h1 := Lib.hid (Ron.start w e o m)
  go_enter Try.func29, Try.ntmps29
  go_wp2_with fail
  refine (right_ron h1.out).mono ?_
  rw [hr]
  rintro x w1 ⟨rfl, n1⟩
  obtain ⟨-, p0, p1, p2⟩ := Ron.all n1
  have HN := Lib.hid n1
  clear n1
  go_wp2_with fail
  refine (rtick_any t _).mono ?_
  rw [ht]
  rintro x wx ⟨rfl, rfl⟩
  go_wp2
  go_ret2
  exact ⟨rfl, HN.out.below⟩

set_option maxHeartbeats 4000000 in
theorem rnext_ok (e o m t : Int) (w : World) (hk : Du.Ok e o m) (t0 : 0 ≤ t) (t1 : t ≤ 281474976710656) :
    Calls Try.prog 28 #[.agg #[.int .i64 e, .int .i64 o, .int .i64 m], .int .i64 t] w fun x w' => ∃ n f : Int, x = .returned (.tuple #[.int .i64 n, .int .i64 f]) ∧
      ((Du.next e o t ≤ 281474976710656 ∧ n = Du.next e o t ∧ f = 0) ∨ (281474976710656 < Du.next e o t ∧ n = 0 ∧ f = 4)) ∧ Below w.heap.size w w' := by
  have h1 := Lib.hid (Ron.start w e o m)
  have hr := right_ok hk
  have ht := tick_ok t0 t1
  have e1 := hk.e1
  have e2 := hk.e2
  have o0 := hk.o0
  have o1 := hk.o1
  have hz : ¬ e = 0 := by omega
  have r0 := Int.emod_nonneg t (show e ≠ 0 by omega)
  have r1 := Int.emod_lt_of_pos t (show 0 < e by omega)
  have r2 : t % e ≤ t := by
    have h2 := Int.emod_add_mul_ediv t e
    have h3 := Int.mul_nonneg (show 0 ≤ e by omega) (Int.ediv_nonneg t0 (show 0 ≤ e by omega))
    omega
  have hm : t.tmod e = t % e := Int.tmod_eq_emod_of_nonneg t0
  obtain ⟨hA, hB⟩ := Du.ref_next hk t0
  have hn := Du.next_ge (t := t) e1 o0
  generalize Du.next e o t = nx at *
  generalize t % e = r at *
  have g1 : IntKind.i64.wrap r = r := IntWalk.i64_in _ (by omega)
  have g2 : IntKind.i64.wrap (t - r) = t - r := IntWalk.i64_in _ (by omega)
  have g3 : IntKind.i64.wrap (t - r + o) = t - r + o := IntWalk.i64_in _ (by omega)
  have g4 : IntKind.i64.wrap (t - r + o + e) = t - r + o + e := IntWalk.i64_in _ (by omega)
  have g5 : IntKind.i64.wrap (t - r + o - e) = t - r + o - e := IntWalk.i64_in _ (by omega)
  have HT : Hid (Du.tick nx = true ∧ nx ≤ 281474976710656 ∨ Du.tick nx = false ∧ 281474976710656 < nx) := by
    show _ ∨ _
    rcases (show nx ≤ 281474976710656 ∨ 281474976710656 < nx by omega) with h | h
    · exact Or.inl ⟨tick_ok hn h, h⟩
    · exact Or.inr ⟨Du.tick_false.2 (by omega), h⟩
  rcases (show t - r + o ≤ t ∨ t < t - r + o by omega) with hc | hc
  · have d1 : decide (t - r + o ≤ t) = true := decide_eq_true hc
    have hA2 := hA hc
    clear hA hB
    subst hA2
    go_enter Try.func28, Try.ntmps28
    go_wp2_with fail
    refine (right_ron h1.out).mono ?_
    rw [hr]
    rintro x w1 ⟨rfl, n1⟩
    obtain ⟨-, p0, p1, p2⟩ := Ron.all n1
    have HN := Lib.hid n1
    clear n1
    go_wp2_with fail
    refine (rtick_any t _).mono ?_
    rw [ht]
    rintro x wx ⟨rfl, rfl⟩
    go_wp2_with fail
    go_quiet (fail)
    go_wp2_with fail
    rcases HT.out with ⟨h2, h3⟩ | ⟨h2, h3⟩
    · refine (rtick_any _ _).mono ?_
      rw [h2]
      rintro x w3 ⟨rfl, rfl⟩
      go_wp2
      go_ret2
      exact ⟨_, _, rfl, Or.inl ⟨h3, rfl, rfl⟩, (by first | exact HN.out.below | exact HN.out.below.drew | exact below_drewN HN.out.below _)⟩
    · refine (rtick_any _ _).mono ?_
      rw [h2]
      rintro x w3 ⟨rfl, rfl⟩
      go_wp2
      go_ret2
      exact ⟨_, _, rfl, Or.inr ⟨h3, rfl, rfl⟩, (by first | exact HN.out.below | exact HN.out.below.drew | exact below_drewN HN.out.below _)⟩
  · have d1 : decide (t - r + o ≤ t) = false := decide_eq_false (by omega)
    have hA2 := hB hc
    clear hA hB
    subst hA2
    go_enter Try.func28, Try.ntmps28
    go_wp2_with fail
    refine (right_ron h1.out).mono ?_
    rw [hr]
    rintro x w1 ⟨rfl, n1⟩
    obtain ⟨-, p0, p1, p2⟩ := Ron.all n1
    have HN := Lib.hid n1
    clear n1
    go_wp2_with fail
    refine (rtick_any t _).mono ?_
    rw [ht]
    rintro x wx ⟨rfl, rfl⟩
    go_wp2_with fail
    go_quiet (fail)
    go_wp2_with fail
    rcases HT.out with ⟨h2, h3⟩ | ⟨h2, h3⟩
    · refine (rtick_any _ _).mono ?_
      rw [h2]
      rintro x w3 ⟨rfl, rfl⟩
      go_wp2
      go_ret2
      exact ⟨_, _, rfl, Or.inl ⟨h3, rfl, rfl⟩, (by first | exact HN.out.below | exact HN.out.below.drew | exact below_drewN HN.out.below _)⟩
    · refine (rtick_any _ _).mono ?_
      rw [h2]
      rintro x w3 ⟨rfl, rfl⟩
      go_wp2
      go_ret2
      exact ⟨_, _, rfl, Or.inr ⟨h3, rfl, rfl⟩, (by first | exact HN.out.below | exact HN.out.below.drew | exact below_drewN HN.out.below _)⟩

set_option maxHeartbeats 4000000 in
theorem rlast_ok (e o m t : Int) (w : World) (hk : Du.Ok e o m) (t0 : 0 ≤ t) (t1 : t ≤ 281474976710656) :
    Calls Try.prog 29 #[.agg #[.int .i64 e, .int .i64 o, .int .i64 m], .int .i64 t] w fun x w' => ∃ n f : Int, x = .returned (.tuple #[.int .i64 n, .int .i64 f]) ∧
      ((o ≤ t ∧ n = Du.last e o t ∧ f = 0) ∨ (t < o ∧ n = 0 ∧ f = 6)) ∧ Below w.heap.size w w' := by
  have h1 := Lib.hid (Ron.start w e o m)
  have hr := right_ok hk
  have ht := tick_ok t0 t1
  have e1 := hk.e1
  have e2 := hk.e2
  have o0 := hk.o0
  have o1 := hk.o1
  have hz : ¬ e = 0 := by omega
  have r0 := Int.emod_nonneg t (show e ≠ 0 by omega)
  have r1 := Int.emod_lt_of_pos t (show 0 < e by omega)
  have r2 : t % e ≤ t := by
    have h2 := Int.emod_add_mul_ediv t e
    have h3 := Int.mul_nonneg (show 0 ≤ e by omega) (Int.ediv_nonneg t0 (show 0 ≤ e by omega))
    omega
  have hm : t.tmod e = t % e := Int.tmod_eq_emod_of_nonneg t0
  obtain ⟨hA, hB⟩ := Du.ref_last hk t0
  generalize t % e = r at *
  have g1 : IntKind.i64.wrap r = r := IntWalk.i64_in _ (by omega)
  have g2 : IntKind.i64.wrap (t - r) = t - r := IntWalk.i64_in _ (by omega)
  have g3 : IntKind.i64.wrap (t - r + o) = t - r + o := IntWalk.i64_in _ (by omega)
  have g4 : IntKind.i64.wrap (t - r + o + e) = t - r + o + e := IntWalk.i64_in _ (by omega)
  have g5 : IntKind.i64.wrap (t - r + o - e) = t - r + o - e := IntWalk.i64_in _ (by omega)
  rcases (show t - r + o ≤ t ∨ t < t - r + o by omega) with hc | hc
  · have d1 : decide (t < t - r + o) = false := decide_eq_false (by omega)
    have d2 : decide (t - r + o < 0) = false := decide_eq_false (by omega)
    obtain ⟨hA2, hA3⟩ := hA hc
    have HL := Lib.hid hA2
    clear hA hB hA2
    go_enter Try.func29, Try.ntmps29
    go_wp2_with fail
    refine (right_ron h1.out).mono ?_
    rw [hr]
    rintro x w1 ⟨rfl, n1⟩
    obtain ⟨-, p0, p1, p2⟩ := Ron.all n1
    have HN := Lib.hid n1
    clear n1
    go_wp2_with fail
    refine (rtick_any t _).mono ?_
    rw [ht]
    rintro x wx ⟨rfl, rfl⟩
    go_wp2_with fail
    go_quiet (fail)
    go_wp2
    go_ret2
    exact ⟨_, _, rfl, Or.inl ⟨hA3, HL.out, rfl⟩, (by first | exact HN.out.below | exact HN.out.below.drew | exact below_drewN HN.out.below _)⟩

  · have d1 : decide (t < t - r + o) = true := decide_eq_true hc
    obtain ⟨hB1, hB2⟩ := hB hc
    clear hA hB
    rcases (show o ≤ t ∨ t < o by omega) with h5 | h5
    · obtain ⟨hA2, hA3⟩ := hB1 h5
      have d2 : decide (t - r + o - e < 0) = false := decide_eq_false (by omega)
      have HL := Lib.hid hA2
      clear hB1 hB2 hA2
      go_enter Try.func29, Try.ntmps29
      go_wp2_with fail
      refine (right_ron h1.out).mono ?_
      rw [hr]
      rintro x w1 ⟨rfl, n1⟩
      obtain ⟨-, p0, p1, p2⟩ := Ron.all n1
      have HN := Lib.hid n1
      clear n1
      go_wp2_with fail
      refine (rtick_any t _).mono ?_
      rw [ht]
      rintro x wx ⟨rfl, rfl⟩
      go_wp2_with fail
      go_quiet (fail)
      go_wp2
      go_ret2
      exact ⟨_, _, rfl, Or.inl ⟨h5, HL.out, rfl⟩, (by first | exact HN.out.below | exact HN.out.below.drew | exact below_drewN HN.out.below _)⟩

    · have d2 : decide (t - r + o - e < 0) = true := decide_eq_true (hB2 h5)
      clear hB1 hB2
      go_enter Try.func29, Try.ntmps29
      go_wp2_with fail
      refine (right_ron h1.out).mono ?_
      rw [hr]
      rintro x w1 ⟨rfl, n1⟩
      obtain ⟨-, p0, p1, p2⟩ := Ron.all n1
      have HN := Lib.hid n1
      clear n1
      go_wp2_with fail
      refine (rtick_any t _).mono ?_
      rw [ht]
      rintro x wx ⟨rfl, rfl⟩
      go_wp2_with fail
      go_quiet (fail)
      go_wp2
      go_ret2
      exact ⟨_, _, rfl, Or.inr ⟨h5, rfl, rfl⟩, (by first | exact HN.out.below | exact HN.out.below.drew | exact below_drewN HN.out.below _)⟩

end Go.Proofs.Ytpgdogcgdlijeaa
