/- Make of what is not right, and the reference's Right. Conditions: none beyond each theorem's own premises. -/
import Derived.Test.YtpgdogcgdlijeaaD7
import Derived.Test.YtpgdogcgdlijeaaAwake
namespace Go.Proofs.Ytpgdogcgdlijeaa
open Go.RowKit

theorem refright_any (e o m : Int) (w : World) :
    Calls Try.prog 15 #[.agg #[.int .i64 e, .int .i64 o, .int .i64 m]] w fun x w' => x = .returned (.bool (Du.right e o m)) ∧ Below w.heap.size w w' := by
  unfold Du.right
  rcases (show e < 1 ∨ 1 ≤ e by omega) with h0 | h0
  · have d0 : decide (e < 1) = true := decide_eq_true h0
    have f0 : decide (1 ≤ e) = false := decide_eq_false (by omega)
    rw [f0]
    clear f0
    go_enter Try.func15, Try.ntmps15
    go_wp2
    go_ret
    exact ⟨rfl, (Below.refl _ _).alloc (Nat.le_refl _) _⟩
  · have d0 : decide (e < 1) = false := decide_eq_false (by omega)
    have f0 : decide (1 ≤ e) = true := decide_eq_true h0
    rw [f0]
    clear f0
    rcases (show 1099511627776 < e ∨ e ≤ 1099511627776 by omega) with h1 | h1
    · have d1 : decide (1099511627776 < e) = true := decide_eq_true h1
      have f0 : decide (e ≤ 1099511627776) = false := decide_eq_false (by omega)
      rw [f0]
      clear f0
      go_enter Try.func15, Try.ntmps15
      go_wp2
      go_ret
      exact ⟨rfl, (Below.refl _ _).alloc (Nat.le_refl _) _⟩
    · have d1 : decide (1099511627776 < e) = false := decide_eq_false (by omega)
      have f0 : decide (e ≤ 1099511627776) = true := decide_eq_true h1
      rw [f0]
      clear f0
      rcases h2 : decide (0 ≤ o) with _ | _
      · go_enter Try.func15, Try.ntmps15
        go_wp2
        go_ret
        exact ⟨rfl, (Below.refl _ _).alloc (Nat.le_refl _) _⟩
      · rcases h3 : decide (o < e) with _ | _
        · go_enter Try.func15, Try.ntmps15
          go_wp2
          go_ret
          exact ⟨rfl, (Below.refl _ _).alloc (Nat.le_refl _) _⟩
        · rcases h4 : decide (1 ≤ m) with _ | _
          · go_enter Try.func15, Try.ntmps15
            go_wp2
            go_ret
            exact ⟨rfl, (Below.refl _ _).alloc (Nat.le_refl _) _⟩
          · rcases h5 : decide (m ≤ e) with _ | _
            · go_enter Try.func15, Try.ntmps15
              go_wp2
              go_ret
              exact ⟨rfl, (Below.refl _ _).alloc (Nat.le_refl _) _⟩
            · go_enter Try.func15, Try.ntmps15
              go_wp2
              go_ret
              exact ⟨rfl, (Below.refl _ _).alloc (Nat.le_refl _) _⟩

set_option maxHeartbeats 4000000 in
theorem make_bad (h e m : Int) (w : World) (hr : Du.right e 0 m = false) :
    Calls Try.prog 14 #[.int .u64 h, .int .i64 e, .int .i64 m] w fun x w' => x = .returned (.tuple #[.agg #[.int .i64 0, .int .i64 0, .int .i64 0], .int .i64 2]) ∧ Below w.heap.size w w' := by
  have K0 := Lib.hid (((Kp.start w).add 23 #[.int .i64 0, .int .i64 0, .int .i64 0]).add 23 #[.int .i64 e, .int .i64 0, .int .i64 m])
  go_enter Try.func14, Try.ntmps14
  go_wp2_with fail
  refine (right_any e 0 m _).mono ?_
  rw [hr]
  rintro x w1 ⟨rfl, hb⟩
  have K1 := K0.out.on hb
  have c0 := K1.cell (.tail _ (.head _))
  have f0 := K1.free (.tail _ (.head _))
  have KB := Lib.hid K1.below
  dsimp only at c0 f0
  clear K1 hb
  go_wp2
  exact bodyPost_ret (v := .tuple #[.agg #[.int .i64 0, .int .i64 0, .int .i64 0], .int .i64 2]) (by simp [results, Try.results14, go_sem, c0]) rfl ⟨rfl, (by repeat (first | exact KB.out | refine Below.drew ?_ | refine Below.setCell ?_ (by first | exact Nat.le_refl _ | (simp; done) | (simp; omega)) _))⟩

set_option maxRecDepth 100000 in
set_option maxHeartbeats 4000000 in
theorem makes_any (h e m : Int) (W : World) (h0 : 0 ≤ h) (h1 : h ≤ 18446744073709551615) :
    Calls Try.prog 4 #[.int .u64 h, .int .i64 e, .int .i64 m] W fun v w' => v = .returned (.bool true) ∧ Below W.heap.size W w' := by
  have K0 := Lib.hid (Kp.start W)
  rcases hr : Du.right e 0 m with _ | _
  · go_enter Try.func4, Try.ntmps4
    go_wp2_with fail
    refine (make_bad h e m _ hr).mono ?_
    rintro v w1 ⟨rfl, hb⟩
    have K1 := Lib.hid (K0.out.on hb)
    clear hb
    go_wp2_with fail
    refine (refright_any e 0 m _).mono ?_
    rw [hr]
    rintro v w2 ⟨rfl, hb⟩
    have K2 := Lib.hid ((K1.out.add _ _).on hb)
    clear hb
    have c_p : ∀ i : Nat, w2.cell? ⟨w1.heap.size, i, none⟩ = #[.int .i64 0, .int .i64 0, .int .i64 0][i]? := by have h := K2.out.cell (.head _); dsimp only at h; exact h
    go_wp2_with fail
    refine (awake_any _).mono ?_
    rintro v w3 ⟨rfl, hb⟩
    have K3 := Lib.hid (K2.out.on hb)
    clear hb
    go_wp2
    go_ret
    exact ⟨rfl, K3.out.below⟩
  · obtain ⟨e1, e2, -, -, m1, m2⟩ := Du.right_true.1 hr
    obtain ⟨o, ho, o0, o1⟩ : ∃ o, h % e = o ∧ 0 ≤ o ∧ o < e := ⟨_, rfl, Int.emod_nonneg _ (by omega), Int.emod_lt_of_pos _ (by omega)⟩
    have hz : ¬ e = 0 := by omega
    have hle : o ≤ h := by rw [← ho]; have := Int.mul_ediv_add_emod h e; have := Int.mul_nonneg (show 0 ≤ e by omega) (Int.ediv_nonneg h0 (show 0 ≤ e by omega)); omega
    have hsub : (h - o).tmod e = 0 := by
      rw [Int.tmod_eq_emod_of_nonneg (by omega), ← ho]
      exact Int.emod_eq_zero_of_dvd (Int.dvd_self_sub_emod)
    have v1 : IntKind.u64.wrap e = e := IntWalk.u64_in _ (by omega)
    have v2 : IntKind.u64.wrap o = o := IntWalk.u64_in _ (by omega)
    have v3 : IntKind.u64.wrap (h - o) = h - o := IntWalk.u64_in _ (by omega)
    have d1 : decide (0 ≤ o) = true := decide_eq_true o0
    have d2 : decide (o < e) = true := decide_eq_true o1
    have HO := Lib.hid ho
    clear ho
    go_enter Try.func4, Try.ntmps4
    go_wp2_with fail
    refine (make_ok h e o m _ h0 e1 e2 m1 m2 HO.out).mono ?_
    rintro v w1 ⟨rfl, hb⟩
    have K1 := Lib.hid (K0.out.on hb)
    clear hb
    go_wp2_with fail
    refine (refright_any e 0 m _).mono ?_
    rw [hr]
    rintro v w2 ⟨rfl, hb⟩
    have K2 := Lib.hid ((K1.out.add _ _).on hb)
    clear hb
    have c_p : ∀ i : Nat, w2.cell? ⟨w1.heap.size, i, none⟩ = #[.int .i64 e, .int .i64 o, .int .i64 m][i]? := by have h := K2.out.cell (.head _); dsimp only at h; exact h
    go_wp2_with fail
    refine (awake_any _).mono ?_
    rintro v w3 ⟨rfl, hb⟩
    have K3 := Lib.hid (K2.out.on hb)
    clear hb
    go_wp2
    go_ret
    exact ⟨rfl, K3.out.below⟩
end Go.Proofs.Ytpgdogcgdlijeaa
