/- DueWakes, walked. Conditions: numbers of their types. -/
import Derived.Test.YtpgdogcgdlijeaaAwake
import Derived.Test.YtpgdogcgdlijeaaDLaws2
import Derived.BigGuard
namespace Go.Proofs.Ytpgdogcgdlijeaa
open Go.RowKit
set_option maxRecDepth 100000 in
set_option maxHeartbeats 8000000 in
theorem wakes_any (x y z q s k : Int) (W : World) (hx : 0 ≤ x) (hy : 0 ≤ y) (hz : 0 ≤ z) (hq : 0 ≤ q) (hs : 0 ≤ s) (hk0 : 0 ≤ k) :
    Calls Try.prog 9 #[.int .u64 x, .int .u64 y, .int .u64 z, .int .u64 q, .int .u8 s, .int .u64 k] W fun v w' => v = .returned (.bool true) ∧ Below W.heap.size W w' := by
  obtain ⟨e, o, m, hmade⟩ := made_of x y z
  have HM := Lib.hid hmade
  have hk := hmade.ok
  have e1 := hk.e1
  have e2 := hk.e2
  have o0 := hk.o0
  have o1 := hk.o1
  have m1 := hk.m1
  have m2 := hk.m2
  clear hmade
  have K0 := Lib.hid (Kp.start W)
  obtain ⟨fr, hfr, fr0, fr1⟩ : ∃ fr, q.tmod 140737488355328 = fr ∧ 0 ≤ fr ∧ fr < 140737488355328 := ⟨_, rfl, Int.tmod_nonneg _ hq, Int.tmod_lt_of_pos _ (by omega)⟩
  have w1_ : IntKind.u64.wrap fr = fr := IntWalk.u64_in _ (by omega)
  have w2_ : IntKind.i64.wrap fr = fr := IntWalk.i64_in _ (by omega)
  go_enter Try.func9, Try.ntmps9
  go_wp2_with fail
  refine (made_any x y z e o m _ hx hy hz HM.out).mono ?_
  rintro v w1 ⟨rfl, hb⟩
  have K1 := Lib.hid (K0.out.on hb)
  clear hb
  go_wp2_with fail
  refine (phase_any e o m fr s k _ hk fr0 (by omega) hs hk0).mono ?_
  rintro v w2 ⟨st, n, rfl, hfit, st0, st2, hb⟩
  have K2 := Lib.hid ((K1.out.add _ _).on hb)
  clear hb
  have HF := Lib.hid hfit
  clear hfit
  have c_p : ∀ i : Nat, w2.cell? ⟨w1.heap.size, i, none⟩ = #[.int .i64 e, .int .i64 o, .int .i64 m][i]? := by have h := K2.out.cell (.head _); dsimp only at h; exact h
  have l_p : w1.heap.size < w2.heap.size := by have h := K2.out.lt (.head _); dsimp only at h; exact h
  have l0_p : w1.heap.size < w2.heap.size + 1 := by omega
  go_wp2_with fail
  refine (wake_ok e o m st n fr _ hk fr0 (by omega) HF.out).mono ?_
  rintro v w3 ⟨wk, f, rfl, hw, hb⟩
  have K3 := Lib.hid ((K2.out.add _ _).on hb)
  clear hb
  clear c_p l_p l0_p
  have HW := Lib.hid hw
  clear hw
  obtain ⟨wlt, wle, rfl⟩ := Du.wakes0 hk fr0 (by omega) HF.out HW.out
  have w3_ : IntKind.i64.wrap (wk - 1) = wk - 1 := IntWalk.i64_in _ (by omega)
  have w4_ : decide (wk ≤ fr) = false := decide_eq_false (by omega)
  have c_s : ∀ i : Nat, w3.cell? ⟨w2.heap.size, i, none⟩ = #[.int .u8 st, .int .i64 n][i]? := by have h := K3.out.cell (.head _); dsimp only at h; exact h
  have l_s : w2.heap.size < w3.heap.size := by have h := K3.out.lt (.head _); dsimp only at h; exact h
  have l0_s : w2.heap.size < w3.heap.size + 1 := by omega
  have c_p : ∀ i : Nat, w3.cell? ⟨w1.heap.size, i, none⟩ = #[.int .i64 e, .int .i64 o, .int .i64 m][i]? := by have h := K3.out.cell (.tail _ (.head _)); dsimp only at h; exact h
  have l_p : w1.heap.size < w3.heap.size := by have h := K3.out.lt (.tail _ (.head _)); dsimp only at h; exact h
  have l0_p : w1.heap.size < w3.heap.size + 1 := by omega
  go_wp2_with fail
  refine (adv_ok e o m fr (wk - 1) st n _ hk fr0 (by omega) (by omega) HF.out).mono ?_
  rintro v w4 ⟨x1, x2, r1, r2, r3, rfl, hA, hb⟩
  have K4 := Lib.hid (K3.out.on hb)
  clear hb
  clear c_s l_s l0_s c_p l_p l0_p
  have HA := Lib.hid hA
  clear hA
  obtain ⟨k4, k5, k6, k7, k8⟩ := Du.wakes1 hk fr0 (by omega) HF.out HW.out HA.out
  obtain ⟨rfl, rfl, rfl, rfl, rfl⟩ : st = x1 ∧ n = x2 ∧ -1 = r1 ∧ -1 = r2 ∧ 0 = r3 := ⟨k4.symm, k5.symm, k6.symm, k7.symm, k8.symm⟩
  clear k4 k5 k6 k7 k8
  have c_s : ∀ i : Nat, w4.cell? ⟨w2.heap.size, i, none⟩ = #[.int .u8 st, .int .i64 n][i]? := by have h := K4.out.cell (.head _); dsimp only at h; exact h
  have l_s : w2.heap.size < w4.heap.size := by have h := K4.out.lt (.head _); dsimp only at h; exact h
  have l0_s : w2.heap.size < w4.heap.size + 1 := by omega
  have c_p : ∀ i : Nat, w4.cell? ⟨w1.heap.size, i, none⟩ = #[.int .i64 e, .int .i64 o, .int .i64 m][i]? := by have h := K4.out.cell (.tail _ (.head _)); dsimp only at h; exact h
  have l_p : w1.heap.size < w4.heap.size := by have h := K4.out.lt (.tail _ (.head _)); dsimp only at h; exact h
  have l0_p : w1.heap.size < w4.heap.size + 1 := by omega
  go_wp2_with fail
  refine (adv_ok e o m fr wk st n _ hk fr0 (by omega) (by omega) HF.out).mono ?_
  rintro v w5 ⟨y1, y2, t1, t2, t3, rfl, hB, hb⟩
  have K5 := Lib.hid (((K4.out.add _ _).add _ _).on hb)
  clear hb
  clear c_s l_s l0_s c_p l_p l0_p
  have HB := Lib.hid hB
  clear hB
  have hor := Du.wakes2 hk fr0 (by omega) HF.out HW.out HB.out
  have c_r : ∀ i : Nat, w5.cell? ⟨w4.heap.size + 1, i, none⟩ = #[.int .i64 (-1), .int .i64 (-1), .int .i64 0][i]? := by have h := K5.out.cell (.head _); dsimp only at h; rw [size_of] at h; exact h
  have l_r : w4.heap.size + 1 < w5.heap.size := by have h := K5.out.lt (.head _); dsimp only at h; rw [size_of] at h; exact h
  have l0_r : w4.heap.size + 1 < w5.heap.size + 1 := by omega
  have l1_r : w4.heap.size + 1 < w5.heap.size + 1 + 1 := by omega
  have c_x : ∀ i : Nat, w5.cell? ⟨w4.heap.size, i, none⟩ = #[.int .u8 st, .int .i64 n][i]? := by have h := K5.out.cell (.tail _ (.head _)); dsimp only at h; exact h
  have l_x : w4.heap.size < w5.heap.size := by have h := K5.out.lt (.tail _ (.head _)); dsimp only at h; exact h
  have l0_x : w4.heap.size < w5.heap.size + 1 := by omega
  have l1_x : w4.heap.size < w5.heap.size + 1 + 1 := by omega
  have c_s : ∀ i : Nat, w5.cell? ⟨w2.heap.size, i, none⟩ = #[.int .u8 st, .int .i64 n][i]? := by have h := K5.out.cell (.tail _ (.tail _ (.head _))); dsimp only at h; exact h
  have l_s : w2.heap.size < w5.heap.size := by have h := K5.out.lt (.tail _ (.tail _ (.head _))); dsimp only at h; exact h
  have l0_s : w2.heap.size < w5.heap.size + 1 := by omega
  have l1_s : w2.heap.size < w5.heap.size + 1 + 1 := by omega
  have c_p : ∀ i : Nat, w5.cell? ⟨w1.heap.size, i, none⟩ = #[.int .i64 e, .int .i64 o, .int .i64 m][i]? := by have h := K5.out.cell (.tail _ (.tail _ (.tail _ (.head _)))); dsimp only at h; exact h
  have l_p : w1.heap.size < w5.heap.size := by have h := K5.out.lt (.tail _ (.tail _ (.tail _ (.head _)))); dsimp only at h; exact h
  have l0_p : w1.heap.size < w5.heap.size + 1 := by omega
  have l1_p : w1.heap.size < w5.heap.size + 1 + 1 := by omega
  rcases hor with hor | ⟨h1, h2, h3, h4, h5⟩
  · have hne : (y1 == st) = false := by simp; exact hor
    go_wp2_with fail
    refine (awake_any _).mono ?_
    rintro v w6 ⟨rfl, hb⟩
    have K6 := Lib.hid ((((K5.out.add _ _).add _ _).add _ _).on hb)
    clear hb
    go_wp2
    go_ret
    exact ⟨rfl, K6.out.below⟩
  · obtain ⟨rfl, rfl, rfl, rfl, rfl⟩ : st = y1 ∧ n = y2 ∧ -1 = t1 ∧ -1 = t2 ∧ 1 = t3 := ⟨h1.symm, h2.symm, h3.symm, h4.symm, h5.symm⟩
    clear h1 h2 h3 h4 h5
    go_wp2_with fail
    refine (awake_any _).mono ?_
    rintro v w6 ⟨rfl, hb⟩
    have K6 := Lib.hid ((((K5.out.add _ _).add _ _).add _ _).on hb)
    clear hb
    go_wp2
    go_ret
    exact ⟨rfl, K6.out.below⟩
end Go.Proofs.Ytpgdogcgdlijeaa
