/- DueParts, walked. Conditions: numbers of their types. -/
import Derived.Test.YtpgdogcgdlijeaaAwake
import Derived.BigGuard
namespace Go.Proofs.Ytpgdogcgdlijeaa
open Go.RowKit
set_option maxRecDepth 100000 in
set_option maxHeartbeats 8000000 in
theorem parts_any (x y z q s k a b : Int) (W : World) (hx : 0 ≤ x) (hy : 0 ≤ y) (hz : 0 ≤ z) (hq : 0 ≤ q) (hs : 0 ≤ s) (hk0 : 0 ≤ k) (ha : 0 ≤ a) (hb : 0 ≤ b) :
    Calls Try.prog 6 #[.int .u64 x, .int .u64 y, .int .u64 z, .int .u64 q, .int .u8 s, .int .u64 k, .int .u64 a, .int .u64 b] W fun v w' => v = .returned (.bool true) ∧ Below W.heap.size W w' := by
  obtain ⟨e, o, m, hmade⟩ := made_of x y z
  have HM := Lib.hid hmade
  have hk := hmade.ok
  have e1 := hk.e1
  have e2 := hk.e2
  have o0 := hk.o0
  have o1 := hk.o1
  have m1 := hk.m1
  have m2 := hk.m2
  clear hmade
  have K0 := Lib.hid (Kp.start W)
  obtain ⟨fr, hfr, fr0, fr1⟩ : ∃ fr, q.tmod 140737488355328 = fr ∧ 0 ≤ fr ∧ fr < 140737488355328 := ⟨_, rfl, Int.tmod_nonneg _ hq, Int.tmod_lt_of_pos _ (by omega)⟩
  have w1_ : IntKind.u64.wrap fr = fr := IntWalk.u64_in _ (by omega)
  have w2_ : IntKind.i64.wrap fr = fr := IntWalk.i64_in _ (by omega)
  obtain ⟨am, ham, am0, am1⟩ : ∃ d, a.tmod 4398046511104 = d ∧ 0 ≤ d ∧ d < 4398046511104 := ⟨_, rfl, Int.tmod_nonneg _ ha, Int.tmod_lt_of_pos _ (by omega)⟩
  have w3am : IntKind.u64.wrap am = am := IntWalk.u64_in _ (by omega)
  have w4am : IntKind.i64.wrap am = am := IntWalk.i64_in _ (by omega)
  obtain ⟨mi, hmi⟩ : ∃ t, fr + am = t := ⟨_, rfl⟩
  have w5mi : IntKind.i64.wrap mi = mi := IntWalk.i64_in _ (by omega)
  obtain ⟨bm, hbm, bm0, bm1⟩ : ∃ d, b.tmod 4398046511104 = d ∧ 0 ≤ d ∧ d < 4398046511104 := ⟨_, rfl, Int.tmod_nonneg _ hb, Int.tmod_lt_of_pos _ (by omega)⟩
  have w3bm : IntKind.u64.wrap bm = bm := IntWalk.u64_in _ (by omega)
  have w4bm : IntKind.i64.wrap bm = bm := IntWalk.i64_in _ (by omega)
  obtain ⟨tt, htt⟩ : ∃ t, mi + bm = t := ⟨_, rfl⟩
  have w5tt : IntKind.i64.wrap tt = tt := IntWalk.i64_in _ (by omega)
  go_enter Try.func6, Try.ntmps6
  go_wp2_with fail
  refine (made_any x y z e o m _ hx hy hz HM.out).mono ?_
  rintro v w1 ⟨rfl, hb⟩
  have K1 := Lib.hid (K0.out.on hb)
  clear hb
  go_wp2_with fail
  refine (phase_any e o m fr s k _ hk fr0 (by omega) hs hk0).mono ?_
  rintro v w2 ⟨st, n, rfl, hfit, st0, st2, hb⟩
  have K2 := Lib.hid ((K1.out.add _ _).on hb)
  clear hb
  have HF := Lib.hid hfit
  clear hfit
  have c_p : ∀ i : Nat, w2.cell? ⟨w1.heap.size, i, none⟩ = #[.int .i64 e, .int .i64 o, .int .i64 m][i]? := by have h := K2.out.cell (.head _); dsimp only at h; exact h
  have l_p : w1.heap.size < w2.heap.size := by have h := K2.out.lt (.head _); dsimp only at h; exact h
  have l0_p : w1.heap.size < w2.heap.size + 1 := by omega
  go_wp2_with fail
  refine (fits_ok e o m st n fr _ hk fr0 (by omega) HF.out).mono ?_
  rintro v w3 ⟨rfl, hb⟩
  have K3 := Lib.hid ((K2.out.add _ _).on hb)
  clear hb
  clear c_p l_p l0_p
  have c_s : ∀ i : Nat, w3.cell? ⟨w2.heap.size, i, none⟩ = #[.int .u8 st, .int .i64 n][i]? := by have h := K3.out.cell (.head _); dsimp only at h; exact h
  have l_s : w2.heap.size < w3.heap.size := by have h := K3.out.lt (.head _); dsimp only at h; exact h
  have l0_s : w2.heap.size < w3.heap.size + 1 := by omega
  have c_p : ∀ i : Nat, w3.cell? ⟨w1.heap.size, i, none⟩ = #[.int .i64 e, .int .i64 o, .int .i64 m][i]? := by have h := K3.out.cell (.tail _ (.head _)); dsimp only at h; exact h
  have l_p : w1.heap.size < w3.heap.size := by have h := K3.out.lt (.tail _ (.head _)); dsimp only at h; exact h
  have l0_p : w1.heap.size < w3.heap.size + 1 := by omega
  go_wp2_with fail
  refine (adv_ok e o m fr mi st n _ hk fr0 (by omega) (by omega) HF.out).mono ?_
  rintro v w4 ⟨x1, x2, r1, r2, r3, rfl, hA, hb⟩
  have K4 := Lib.hid (K3.out.on hb)
  clear hb
  clear c_s l_s l0_s c_p l_p l0_p
  have HA := Lib.hid hA
  clear hA
  have c_s : ∀ i : Nat, w4.cell? ⟨w2.heap.size, i, none⟩ = #[.int .u8 st, .int .i64 n][i]? := by have h := K4.out.cell (.head _); dsimp only at h; exact h
  have l_s : w2.heap.size < w4.heap.size := by have h := K4.out.lt (.head _); dsimp only at h; exact h
  have l0_s : w2.heap.size < w4.heap.size + 1 := by omega
  have c_p : ∀ i : Nat, w4.cell? ⟨w1.heap.size, i, none⟩ = #[.int .i64 e, .int .i64 o, .int .i64 m][i]? := by have h := K4.out.cell (.tail _ (.head _)); dsimp only at h; exact h
  have l_p : w1.heap.size < w4.heap.size := by have h := K4.out.lt (.tail _ (.head _)); dsimp only at h; exact h
  have l0_p : w1.heap.size < w4.heap.size + 1 := by omega
  have HX := Lib.hid (Du.adv_fits hk (by omega) HF.out HA.out)
  go_wp2_with fail
  refine (adv_ok e o m mi tt x1 x2 _ hk (by omega) (by omega) (by omega) HX.out).mono ?_
  rintro v w5 ⟨y1, y2, t1, t2, t3, rfl, hB, hb⟩
  have K5 := Lib.hid (((K4.out.add _ _).add _ _).on hb)
  clear hb
  clear c_s l_s l0_s c_p l_p l0_p
  have HB := Lib.hid hB
  clear hB
  have c_r : ∀ i : Nat, w5.cell? ⟨w4.heap.size + 1, i, none⟩ = #[.int .i64 r1, .int .i64 r2, .int .i64 r3][i]? := by have h := K5.out.cell (.head _); dsimp only at h; rw [size_of] at h; exact h
  have l_r : w4.heap.size + 1 < w5.heap.size := by have h := K5.out.lt (.head _); dsimp only at h; rw [size_of] at h; exact h
  have l0_r : w4.heap.size + 1 < w5.heap.size + 1 := by omega
  have c_x : ∀ i : Nat, w5.cell? ⟨w4.heap.size, i, none⟩ = #[.int .u8 x1, .int .i64 x2][i]? := by have h := K5.out.cell (.tail _ (.head _)); dsimp only at h; exact h
  have l_x : w4.heap.size < w5.heap.size := by have h := K5.out.lt (.tail _ (.head _)); dsimp only at h; exact h
  have l0_x : w4.heap.size < w5.heap.size + 1 := by omega
  have c_s : ∀ i : Nat, w5.cell? ⟨w2.heap.size, i, none⟩ = #[.int .u8 st, .int .i64 n][i]? := by have h := K5.out.cell (.tail _ (.tail _ (.head _))); dsimp only at h; exact h
  have l_s : w2.heap.size < w5.heap.size := by have h := K5.out.lt (.tail _ (.tail _ (.head _))); dsimp only at h; exact h
  have l0_s : w2.heap.size < w5.heap.size + 1 := by omega
  have c_p : ∀ i : Nat, w5.cell? ⟨w1.heap.size, i, none⟩ = #[.int .i64 e, .int .i64 o, .int .i64 m][i]? := by have h := K5.out.cell (.tail _ (.tail _ (.tail _ (.head _)))); dsimp only at h; exact h
  have l_p : w1.heap.size < w5.heap.size := by have h := K5.out.lt (.tail _ (.tail _ (.tail _ (.head _)))); dsimp only at h; exact h
  have l0_p : w1.heap.size < w5.heap.size + 1 := by omega
  go_wp2_with fail
  refine (adv_ok e o m fr tt st n _ hk (by omega) (by omega) (by omega) HF.out).mono ?_
  rintro v w6 ⟨z1, z2, u1, u2, u3, rfl, hC, hb⟩
  have K6 := Lib.hid (((K5.out.add _ _).add _ _).on hb)
  clear hb
  clear c_r l_r l0_r c_x l_x l0_x c_s l_s l0_s c_p l_p l0_p
  have HC := Lib.hid hC
  clear hC
  have HZ := Lib.hid (Du.adv_fits hk (by omega) HF.out HC.out)
  obtain ⟨k1, k2, k3, k4, k5, k6, k7, k8, k9, ka, kb⟩ := Du.parts hk (by omega) (by omega) HF.out HA.out HB.out HC.out
  have kc := Du.up_bounds hk.e1 hk.o0 (show mi ≤ 281474976710656 by omega) (Du.upTo_spec (o := o) (t := mi) hk.e1)
  have kd := Du.up_bounds hk.e1 hk.o0 (show tt ≤ 281474976710656 by omega) (Du.upTo_spec (o := o) (t := tt) hk.e1)
  obtain ⟨rfl, rfl, rfl⟩ : z1 = y1 ∧ z2 = y2 ∧ u3 = r3 + t3 := ⟨k1, k2, k3⟩
  have w6_ : IntKind.i64.wrap (r3 + t3) = r3 + t3 := IntWalk.i64_in _ (by omega)
  clear k1 k2 k3 kc kd k6 k7
  have kf : (if r1 < t1 then t1 else r1) = u1 := by rw [← ka]; split <;> split <;> omega
  have kg : (if r2 < t2 then t2 else r2) = u2 := by rw [← kb]; split <;> split <;> omega
  clear ka kb
  have c_t : ∀ i : Nat, w6.cell? ⟨w5.heap.size + 1, i, none⟩ = #[.int .i64 t1, .int .i64 t2, .int .i64 t3][i]? := by have h := K6.out.cell (.head _); dsimp only at h; rw [size_of] at h; exact h
  have l_t : w5.heap.size + 1 < w6.heap.size := by have h := K6.out.lt (.head _); dsimp only at h; rw [size_of] at h; exact h
  have l0_t : w5.heap.size + 1 < w6.heap.size + 1 := by omega
  have c_y : ∀ i : Nat, w6.cell? ⟨w5.heap.size, i, none⟩ = #[.int .u8 z1, .int .i64 z2][i]? := by have h := K6.out.cell (.tail _ (.head _)); dsimp only at h; exact h
  have l_y : w5.heap.size < w6.heap.size := by have h := K6.out.lt (.tail _ (.head _)); dsimp only at h; exact h
  have l0_y : w5.heap.size < w6.heap.size + 1 := by omega
  have c_r : ∀ i : Nat, w6.cell? ⟨w4.heap.size + 1, i, none⟩ = #[.int .i64 r1, .int .i64 r2, .int .i64 r3][i]? := by have h := K6.out.cell (.tail _ (.tail _ (.head _))); dsimp only at h; rw [size_of] at h; exact h
  have l_r : w4.heap.size + 1 < w6.heap.size := by have h := K6.out.lt (.tail _ (.tail _ (.head _))); dsimp only at h; rw [size_of] at h; exact h
  have l0_r : w4.heap.size + 1 < w6.heap.size + 1 := by omega
  have c_x : ∀ i : Nat, w6.cell? ⟨w4.heap.size, i, none⟩ = #[.int .u8 x1, .int .i64 x2][i]? := by have h := K6.out.cell (.tail _ (.tail _ (.tail _ (.head _)))); dsimp only at h; exact h
  have l_x : w4.heap.size < w6.heap.size := by have h := K6.out.lt (.tail _ (.tail _ (.tail _ (.head _)))); dsimp only at h; exact h
  have l0_x : w4.heap.size < w6.heap.size + 1 := by omega
  have c_s : ∀ i : Nat, w6.cell? ⟨w2.heap.size, i, none⟩ = #[.int .u8 st, .int .i64 n][i]? := by have h := K6.out.cell (.tail _ (.tail _ (.tail _ (.tail _ (.head _))))); dsimp only at h; exact h
  have l_s : w2.heap.size < w6.heap.size := by have h := K6.out.lt (.tail _ (.tail _ (.tail _ (.tail _ (.head _))))); dsimp only at h; exact h
  have l0_s : w2.heap.size < w6.heap.size + 1 := by omega
  have c_p : ∀ i : Nat, w6.cell? ⟨w1.heap.size, i, none⟩ = #[.int .i64 e, .int .i64 o, .int .i64 m][i]? := by have h := K6.out.cell (.tail _ (.tail _ (.tail _ (.tail _ (.tail _ (.head _)))))); dsimp only at h; exact h
  have l_p : w1.heap.size < w6.heap.size := by have h := K6.out.lt (.tail _ (.tail _ (.tail _ (.tail _ (.tail _ (.head _)))))); dsimp only at h; exact h
  have l0_p : w1.heap.size < w6.heap.size + 1 := by omega
  have cf := fits_ok e o m z1 z2 tt
  rcases hq1 : decide (0 ≤ r1) with _ | _
  · skip
    rcases hq2 : decide (0 ≤ r2) with _ | _
    · skip
      go_wp2_with fail
      refine (cf _ hk (by omega) (by omega) HZ.out).mono ?_
      rintro v w7 ⟨rfl, hb⟩
      have K7 := Lib.hid (((K6.out.add _ _).add _ _).on hb)
      clear hb
      go_wp2_with fail
      refine (awake_any _).mono ?_
      rintro v w8 ⟨rfl, hb⟩
      have K8 := Lib.hid (K7.out.on hb)
      clear hb
      go_wp2
      go_ret
      exact ⟨rfl, K8.out.below⟩
    · have hq4 : decide (0 ≤ t2) = false := decide_eq_false (by have := of_decide_eq_true hq2; omega)
      go_wp2_with fail
      refine (cf _ hk (by omega) (by omega) HZ.out).mono ?_
      rintro v w7 ⟨rfl, hb⟩
      have K7 := Lib.hid (((K6.out.add _ _).add _ _).on hb)
      clear hb
      go_wp2_with fail
      refine (awake_any _).mono ?_
      rintro v w8 ⟨rfl, hb⟩
      have K8 := Lib.hid (K7.out.on hb)
      clear hb
      go_wp2
      go_ret
      exact ⟨rfl, K8.out.below⟩
  · have hq3 : decide (0 ≤ t1) = false := decide_eq_false (by have := of_decide_eq_true hq1; omega)
    rcases hq2 : decide (0 ≤ r2) with _ | _
    · skip
      go_wp2_with fail
      refine (cf _ hk (by omega) (by omega) HZ.out).mono ?_
      rintro v w7 ⟨rfl, hb⟩
      have K7 := Lib.hid (((K6.out.add _ _).add _ _).on hb)
      clear hb
      go_wp2_with fail
      refine (awake_any _).mono ?_
      rintro v w8 ⟨rfl, hb⟩
      have K8 := Lib.hid (K7.out.on hb)
      clear hb
      go_wp2
      go_ret
      exact ⟨rfl, K8.out.below⟩
    · have hq4 : decide (0 ≤ t2) = false := decide_eq_false (by have := of_decide_eq_true hq2; omega)
      go_wp2_with fail
      refine (cf _ hk (by omega) (by omega) HZ.out).mono ?_
      rintro v w7 ⟨rfl, hb⟩
      have K7 := Lib.hid (((K6.out.add _ _).add _ _).on hb)
      clear hb
      go_wp2_with fail
      refine (awake_any _).mono ?_
      rintro v w8 ⟨rfl, hb⟩
      have K8 := Lib.hid (K7.out.on hb)
      clear hb
      go_wp2
      go_ret
      exact ⟨rfl, K8.out.below⟩
end Go.Proofs.Ytpgdogcgdlijeaa
