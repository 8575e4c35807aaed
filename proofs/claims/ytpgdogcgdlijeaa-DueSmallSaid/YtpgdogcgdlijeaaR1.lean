/- The reference's functions, walked (1): Tick, Is, Next, Last. Conditions: none beyond each theorem's own premises. -/
import Derived.Test.YtpgdogcgdlijeaaD8
namespace Go.Proofs.Ytpgdogcgdlijeaa
open Go.RowKit

theorem rtick_any (t : Int) (w : World) :
    Calls Try.prog 30 #[.int .i64 t] w fun x w' => x = .returned (.bool (Du.tick t)) ∧ w' = w := by
  unfold Du.tick
  rcases h0 : decide (0 ≤ t) with _ | _
  · go_enter Try.func30, Try.ntmps30
    go_wp2
    go_ret
    exact ⟨rfl, rfl⟩
  · rcases h1 : decide (t ≤ 281474976710656) with _ | _
    · go_enter Try.func30, Try.ntmps30
      go_wp2
      go_ret
      exact ⟨rfl, rfl⟩
    · go_enter Try.func30, Try.ntmps30
      go_wp2
      go_ret
      exact ⟨rfl, rfl⟩

/-- A world W, only grown since w, with a reference plan's box as w's first new block. -/
structure Ron (w : World) (e o m : Int) (W : World) : Prop where
  below : Below w.heap.size w W
  p : Has W w.heap.size 33 (pcells e o m)
section
variable {w W W' : World} {e o m : Int}
theorem Ron.start (w : World) (e o m : Int) : Ron w e o m (w.alloc (.cells (pcells e o m) 33)) := ⟨(Below.refl _ _).alloc (Nat.le_refl _) _, Has.made _ _ _⟩
theorem Ron.on (h : Ron w e o m W) (k : Below W.heap.size W W') : Ron w e o m W' := ⟨h.below.trans (k.mono h.below.size), h.p.below k (Has.lt h.p)⟩
theorem Ron.drew (h : Ron w e o m W) : Ron w e o m W.drew := ⟨h.below.drew, h.p.drew⟩
theorem Ron.all (h : Ron w e o m W) : Ron w e o m W ∧ W.cell? ⟨w.heap.size, 0, none⟩ = some (.int .i64 e) ∧ W.cell? ⟨w.heap.size, 1, none⟩ = some (.int .i64 o) ∧ W.cell? ⟨w.heap.size, 2, none⟩ = some (.int .i64 m) :=
  ⟨h, h.p.cell 0, h.p.cell 1, h.p.cell 2⟩
theorem right_ron (h : Ron w e o m W) :
    Calls Try.prog 15 #[.agg #[.int .i64 e, .int .i64 o, .int .i64 m]] W fun x w' => x = .returned (.bool (Du.right e o m)) ∧ Ron w e o m w' :=
  (refright_any e o m W).mono fun _ _ ⟨he, k⟩ => ⟨he, h.on k⟩
theorem tick_ron (t : Int) (h : Ron w e o m W) :
    Calls Try.prog 30 #[.int .i64 t] W fun x w' => x = .returned (.bool (Du.tick t)) ∧ Ron w e o m w' :=
  (rtick_any t W).mono fun _ _ ⟨he, k⟩ => ⟨he, k ▸ h⟩
end

set_option maxHeartbeats 16000000 in
theorem ris_bad1 (e o m t : Int) (w : World) (hr : Du.right e o m = false) :
    Calls Try.prog 26 #[.agg #[.int .i64 e, .int .i64 o, .int .i64 m], .int .i64 t] w fun x w' => x = .returned (.bool false) ∧ Below w.heap.size w w' := by
  have h1 := Lib.hid (Ron.start w e o m)
  go_enter Try.func26, Try.ntmps26
  go_wp2
  first | go_region_with (first | (go_at_call 15; refine (right_ron (by first | assumption | exact h1.out | exact Ron.drew h1.out | exact Ron.drew (by assumption))).mono ?_; rw [hr]; rintro e w9 ⟨rfl, n9⟩)) | fail
  all_goals (go_wp2; go_ret; exact ⟨rfl, Ron.below (by first | assumption | exact Ron.drew (by assumption))⟩)

set_option maxHeartbeats 16000000 in
theorem ris_bad2 (e o m t : Int) (w : World) (hr : Du.right e o m = true) (ht : Du.tick t = false) :
    Calls Try.prog 26 #[.agg #[.int .i64 e, .int .i64 o, .int .i64 m], .int .i64 t] w fun x w' => x = .returned (.bool false) ∧ Below w.heap.size w w' := by
  have h1 := Lib.hid (Ron.start w e o m)
  go_enter Try.func26, Try.ntmps26
  go_wp2
  first | go_region_with (first | (go_at_call 15; refine (right_ron (by first | assumption | exact h1.out | exact Ron.drew h1.out | exact Ron.drew (by assumption))).mono ?_; rw [hr]; rintro e w9 ⟨rfl, n9⟩) | (go_at_call 30; refine (tick_ron t (by first | assumption | exact Ron.drew (by assumption))).mono ?_; rw [ht]; rintro e w9 ⟨rfl, n9⟩)) | fail
  all_goals (go_wp2; go_ret; exact ⟨rfl, Ron.below (by first | assumption | exact Ron.drew (by assumption))⟩)

set_option maxHeartbeats 4000000 in
theorem ris_ok (e o m t : Int) (w : World) (q : Bool) (hk : Du.Ok e o m) (t0 : 0 ≤ t) (t1 : t ≤ 281474976710656) (hqq : (t % e == o) = q) :
    Calls Try.prog 26 #[.agg #[.int .i64 e, .int .i64 o, .int .i64 m], .int .i64 t] w fun x w' => x = .returned (.bool q) ∧ Below w.heap.size w w' := by
  have h1 := Lib.hid (Ron.start w e o m)
  have hr := right_ok hk
  have ht := tick_ok t0 t1
  have e1 := hk.e1
  have e2 := hk.e2
  have hm : t.tmod e = t % e := Int.tmod_eq_emod_of_nonneg t0
  have hz : ¬ e = 0 := by omega
  have r0 := Int.emod_nonneg t (show e ≠ 0 by omega)
  have r1 := Int.emod_lt_of_pos t (show 0 < e by omega)
  have g1 : IntKind.i64.wrap (t % e) = t % e := IntWalk.i64_in _ (by omega)
  generalize t % e = r at *
  go_enter Try.func26, Try.ntmps26
  go_wp2
  go_region_held3 (fun W => W.cell? ⟨w.heap.size, 0, none⟩ = some (.int .i64 e) ∧ W.cell? ⟨w.heap.size, 1, none⟩ = some (.int .i64 o) ∧ W.cell? ⟨w.heap.size, 2, none⟩ = some (.int .i64 m)) (first | (go_keep; done) | exact (Ron.all h1.out).2 | exact (Ron.all (Ron.drew h1.out)).2 | exact (Ron.all (Ron.drew (by assumption))).2 | exact (Ron.all (by assumption)).2)
    (first | (go_at_call 15; refine (right_ron (by first | assumption | exact h1.out | exact Ron.drew h1.out | exact Ron.drew (by assumption))).mono ?_; rw [hr]; rintro e w9 ⟨rfl, n9⟩) | (go_at_call 30; refine (tick_ron t (by first | assumption | exact Ron.drew (by assumption))).mono ?_; rw [ht]; rintro e w9 ⟨rfl, n9⟩))
  go_wp2
  go_ret
  exact ⟨rfl, Ron.below (by first | assumption | exact Ron.drew (by assumption))⟩
end Go.Proofs.Ytpgdogcgdlijeaa
