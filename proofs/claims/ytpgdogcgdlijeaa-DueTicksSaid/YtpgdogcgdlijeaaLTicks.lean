/- DueTicks, walked. Conditions: numbers of their types. -/
import Derived.Test.YtpgdogcgdlijeaaAwake
import Derived.Test.YtpgdogcgdlijeaaDLaws2
import Derived.BigGuard
namespace Go.Proofs.Ytpgdogcgdlijeaa
open Go.RowKit
set_option maxRecDepth 100000 in
set_option maxHeartbeats 8000000 in
theorem ticks_any (x y z q s k a : Int) (W : World) (hx : 0 ≤ x) (hy : 0 ≤ y) (hz : 0 ≤ z) (hq : 0 ≤ q) (hs : 0 ≤ s) (hk0 : 0 ≤ k) (ha : 0 ≤ a) :
    Calls Try.prog 7 #[.int .u64 x, .int .u64 y, .int .u64 z, .int .u64 q, .int .u8 s, .int .u64 k, .int .u64 a] W fun v w' => v = .returned (.bool true) ∧ Below W.heap.size W w' := by
  obtain ⟨e, o, m, hmade⟩ := made_of x y z
  have HM := Lib.hid hmade
  have hk := hmade.ok
  have e1 := hk.e1
  have e2 := hk.e2
  have o0 := hk.o0
  have o1 := hk.o1
  have m1 := hk.m1
  have m2 := hk.m2
  clear hmade
  have K0 := Lib.hid (Kp.start W)
  obtain ⟨fr, hfr, fr0, fr1⟩ : ∃ fr, q.tmod 140737488355328 = fr ∧ 0 ≤ fr ∧ fr < 140737488355328 := ⟨_, rfl, Int.tmod_nonneg _ hq, Int.tmod_lt_of_pos _ (by omega)⟩
  have w1_ : IntKind.u64.wrap fr = fr := IntWalk.u64_in _ (by omega)
  have w2_ : IntKind.i64.wrap fr = fr := IntWalk.i64_in _ (by omega)
  obtain ⟨am, ham, am0, am1⟩ : ∃ d, a.tmod 4398046511104 = d ∧ 0 ≤ d ∧ d < 4398046511104 := ⟨_, rfl, Int.tmod_nonneg _ ha, Int.tmod_lt_of_pos _ (by omega)⟩
  have w3am : IntKind.u64.wrap am = am := IntWalk.u64_in _ (by omega)
  have w4am : IntKind.i64.wrap am = am := IntWalk.i64_in _ (by omega)
  obtain ⟨tt, htt⟩ : ∃ t, fr + am = t := ⟨_, rfl⟩
  have w5tt : IntKind.i64.wrap tt = tt := IntWalk.i64_in _ (by omega)
  go_enter Try.func7, Try.ntmps7
  go_wp2_with fail
  refine (made_any x y z e o m _ hx hy hz HM.out).mono ?_
  rintro v w1 ⟨rfl, hb⟩
  have K1 := Lib.hid (K0.out.on hb)
  clear hb
  go_wp2_with fail
  refine (phase_any e o m fr s k _ hk fr0 (by omega) hs hk0).mono ?_
  rintro v w2 ⟨st, n, rfl, hfit, st0, st2, hb⟩
  have K2 := Lib.hid ((K1.out.add _ _).on hb)
  clear hb
  have HF := Lib.hid hfit
  clear hfit
  have c_p : ∀ i : Nat, w2.cell? ⟨w1.heap.size, i, none⟩ = #[.int .i64 e, .int .i64 o, .int .i64 m][i]? := by have h := K2.out.cell (.head _); dsimp only at h; exact h
  have l_p : w1.heap.size < w2.heap.size := by have h := K2.out.lt (.head _); dsimp only at h; exact h
  have l0_p : w1.heap.size < w2.heap.size + 1 := by omega
  go_wp2_with fail
  refine (adv_ok e o m fr tt st n _ hk fr0 (by omega) (by omega) HF.out).mono ?_
  rintro v w3 ⟨x1, x2, r1, r2, r3, rfl, hA, hb⟩
  have K3 := Lib.hid ((K2.out.add _ _).on hb)
  clear hb
  clear c_p l_p l0_p
  have hlaw := hA.law
  clear hA
  have c_s : ∀ i : Nat, w3.cell? ⟨w2.heap.size, i, none⟩ = #[.int .u8 st, .int .i64 n][i]? := by have h := K3.out.cell (.head _); dsimp only at h; exact h
  have l_s : w2.heap.size < w3.heap.size := by have h := K3.out.lt (.head _); dsimp only at h; exact h
  have l0_s : w2.heap.size < w3.heap.size + 1 := by omega
  have c_p : ∀ i : Nat, w3.cell? ⟨w1.heap.size, i, none⟩ = #[.int .i64 e, .int .i64 o, .int .i64 m][i]? := by have h := K3.out.cell (.tail _ (.head _)); dsimp only at h; exact h
  have l_p : w1.heap.size < w3.heap.size := by have h := K3.out.lt (.tail _ (.head _)); dsimp only at h; exact h
  have l0_p : w1.heap.size < w3.heap.size + 1 := by omega
  go_wp2_with fail
  refine (count_ok e o m fr tt _ hk fr0 (by omega) (by omega)).mono ?_
  rintro v w4 ⟨rfl, hb⟩
  have K4 := Lib.hid (((K3.out.add _ _).add _ _).on hb)
  clear hb
  clear c_s l_s l0_s c_p l_p l0_p
  have hup := Du.up_le (e := e) (o := o) hk.e1 (show fr ≤ tt by omega)
  have hnl := fun h => Du.next_le (e := e) (o := o) (a := fr) (b := tt) hk.e1 (by omega) h
  have hng := Du.next_gt (o := o) (t := fr) hk.e1
  have hn0 := Du.next_ge (t := fr) hk.e1 hk.o0
  have hnd := Du.next_due (o := o) (t := fr) hk.e1
  have hub := Du.up_bounds hk.e1 hk.o0 (show tt ≤ 281474976710656 by omega) (Du.upTo_spec (o := o) (t := tt) hk.e1)
  have hu0 := (Du.upTo_spec (o := o) (t := fr) hk.e1).u0
  have hfs : (st = 0 ∧ n = 0) ∨ (0 ≤ n ∧ n ≤ fr ∧ ((st = 1 ∧ fr < n + m) ∨ st = 2)) := by
    rcases HF.out with h | ⟨h1, h2, h3, h4⟩
    · exact Or.inl h
    · exact Or.inr ⟨h3, h2, h4⟩
  obtain ⟨NX, hNX⟩ : ∃ N, Du.next e o fr = N := ⟨_, rfl⟩
  rw [hNX] at hlaw hnl hng hn0 hnd
  have HNX := Lib.hid hNX
  clear hNX
  generalize Du.upTo e o fr = U0 at *
  generalize Du.upTo e o tt = U1 at *
  have c_r : ∀ i : Nat, w4.cell? ⟨w3.heap.size + 1, i, none⟩ = #[.int .i64 r1, .int .i64 r2, .int .i64 r3][i]? := by have h := K4.out.cell (.head _); dsimp only at h; rw [size_of] at h; exact h
  have l_r : w3.heap.size + 1 < w4.heap.size := by have h := K4.out.lt (.head _); dsimp only at h; rw [size_of] at h; exact h
  have l0_r : w3.heap.size + 1 < w4.heap.size + 1 := by omega
  have c_x : ∀ i : Nat, w4.cell? ⟨w3.heap.size, i, none⟩ = #[.int .u8 x1, .int .i64 x2][i]? := by have h := K4.out.cell (.tail _ (.head _)); dsimp only at h; exact h
  have l_x : w3.heap.size < w4.heap.size := by have h := K4.out.lt (.tail _ (.head _)); dsimp only at h; exact h
  have l0_x : w3.heap.size < w4.heap.size + 1 := by omega
  have c_s : ∀ i : Nat, w4.cell? ⟨w2.heap.size, i, none⟩ = #[.int .u8 st, .int .i64 n][i]? := by have h := K4.out.cell (.tail _ (.tail _ (.head _))); dsimp only at h; exact h
  have l_s : w2.heap.size < w4.heap.size := by have h := K4.out.lt (.tail _ (.tail _ (.head _))); dsimp only at h; exact h
  have l0_s : w2.heap.size < w4.heap.size + 1 := by omega
  have c_p : ∀ i : Nat, w4.cell? ⟨w1.heap.size, i, none⟩ = #[.int .i64 e, .int .i64 o, .int .i64 m][i]? := by have h := K4.out.cell (.tail _ (.tail _ (.tail _ (.head _)))); dsimp only at h; exact h
  have l_p : w1.heap.size < w4.heap.size := by have h := K4.out.lt (.tail _ (.tail _ (.tail _ (.head _)))); dsimp only at h; exact h
  have l0_p : w1.heap.size < w4.heap.size + 1 := by omega
  have g0 : IntKind.i64.wrap (n + m) = n + m := IntWalk.i64_in _ (by omega)
  have g1 : IntKind.i64.wrap (NX + m) = NX + m := IntWalk.i64_in _ (by rcases (show U1 - U0 = 0 ∨ U1 - U0 ≠ 0 by omega) with h | h <;> first | (have := hnl h; omega) | (have := Du.next_near (o := o) hk fr0; rw [HNX.out] at this; omega))
  have g2 : IntKind.i64.wrap (1 + (U1 - U0 - 1)) = U1 - U0 := by rw [show 1 + (U1 - U0 - 1) = U1 - U0 by omega]; exact IntWalk.i64_in _ (by omega)
  have g3 : 1 + (U1 - U0 - 1) = U1 - U0 := by omega
  rcases hlaw with ⟨a1, a2, a3, a4, a5, a6⟩ | ⟨a1, a2, a3, a4, a5, a6, a7⟩ | ⟨a1, a2, a3, a4, a5, a6⟩ | ⟨a1, a2, a3, a4, a5⟩
  · skip
    obtain ⟨rfl, rfl, rfl, rfl, rfl, rfl⟩ : 2 = st ∧ 2 = x1 ∧ n = x2 ∧ (-1) = r1 ∧ (-1) = r2 ∧ U1 - U0 = r3 := ⟨by omega, by omega, by omega, by omega, by omega, by omega⟩
    have d1 : decide (U1 - U0 < 0) = false := decide_eq_false (by omega)
    have d2 : 0 + (U1 - U0) = U1 - U0 := by omega
    go_wp2_with fail
    refine (awake_any _).mono ?_
    rintro v w5 ⟨rfl, hb⟩
    have K5 := Lib.hid (K4.out.on hb)
    clear hb
    go_wp2
    go_ret
    exact ⟨rfl, K5.out.below⟩
  · skip
    obtain ⟨rfl, rfl, rfl, rfl, rfl, rfl⟩ : 0 = st ∧ 0 = x1 ∧ n = x2 ∧ (-1) = r1 ∧ (-1) = r2 ∧ 0 = r3 := ⟨by omega, by omega, by omega, by omega, by omega, by omega⟩
    have d2 : (U1 - U0 == 0) = true := by simp; omega
    have d3 : U1 - U0 = 0 := by omega
    go_wp2_with fail
    refine (awake_any _).mono ?_
    rintro v w5 ⟨rfl, hb⟩
    have K5 := Lib.hid (K4.out.on hb)
    clear hb
    go_wp2
    go_ret
    exact ⟨rfl, K5.out.below⟩
  · rcases a6 with ⟨b1, b2, b3⟩ | ⟨b1, b2, b3⟩
    · have d4 : (NX % e == o) = true := by rw [(Du.due_iff hk.e1 hk.o0 hk.o1 hn0).2 hnd]; simp
      have d5 := hnl a2
      have d6 : decide (0 ≤ NX) = true := decide_eq_true hn0
      have d7 : decide (NX ≤ fr) = false := decide_eq_false (by omega)
      have d8 : decide (tt < NX) = false := decide_eq_false (by omega)
      have d9 : (U1 - U0 == 0) = false := by simp; omega
      have da : decide (U1 - U0 - 1 < 0) = false := decide_eq_false (by omega)
      obtain ⟨rfl, rfl, rfl, rfl, rfl, rfl⟩ : 0 = st ∧ NX = x2 ∧ NX = r1 ∧ U1 - U0 - 1 = r3 ∧ 2 = x1 ∧ NX = r2 := ⟨by omega, by omega, by omega, by omega, by omega, by omega⟩
      have db : decide (NX + m ≤ fr) = false := decide_eq_false (by omega)
      have dc : decide (tt < NX + m) = false := decide_eq_false (by omega)
      go_wp2_with fail
      refine (is_ok e o m NX _ true hk hn0 (by omega) d4).mono ?_
      rintro v w5 ⟨rfl, hb⟩
      have K5 := Lib.hid (K4.out.on hb)
      clear hb
      clear c_r l_r l0_r c_x l_x l0_x c_s l_s l0_s c_p l_p l0_p
      have c_r : ∀ i : Nat, w5.cell? ⟨w3.heap.size + 1, i, none⟩ = #[.int .i64 NX, .int .i64 NX, .int .i64 (U1 - U0 - 1)][i]? := by have h := K5.out.cell (.head _); dsimp only at h; rw [size_of] at h; exact h
      have l_r : w3.heap.size + 1 < w5.heap.size := by have h := K5.out.lt (.head _); dsimp only at h; rw [size_of] at h; exact h
      have c_x : ∀ i : Nat, w5.cell? ⟨w3.heap.size, i, none⟩ = #[.int .u8 2, .int .i64 NX][i]? := by have h := K5.out.cell (.tail _ (.head _)); dsimp only at h; exact h
      have l_x : w3.heap.size < w5.heap.size := by have h := K5.out.lt (.tail _ (.head _)); dsimp only at h; exact h
      have c_s : ∀ i : Nat, w5.cell? ⟨w2.heap.size, i, none⟩ = #[.int .u8 0, .int .i64 n][i]? := by have h := K5.out.cell (.tail _ (.tail _ (.head _))); dsimp only at h; exact h
      have l_s : w2.heap.size < w5.heap.size := by have h := K5.out.lt (.tail _ (.tail _ (.head _))); dsimp only at h; exact h
      have c_p : ∀ i : Nat, w5.cell? ⟨w1.heap.size, i, none⟩ = #[.int .i64 e, .int .i64 o, .int .i64 m][i]? := by have h := K5.out.cell (.tail _ (.tail _ (.tail _ (.head _)))); dsimp only at h; exact h
      have l_p : w1.heap.size < w5.heap.size := by have h := K5.out.lt (.tail _ (.tail _ (.tail _ (.head _)))); dsimp only at h; exact h
      go_wp2_with fail
      refine (next_ok e o m fr _ hk fr0 (by omega)).mono ?_
      rintro v w6 ⟨nn, ff, rfl, hor, hb⟩
      have K6 := Lib.hid (K5.out.on hb)
      clear hb
      clear c_r l_r c_x l_x c_s l_s c_p l_p
      obtain ⟨rfl, rfl⟩ : NX = nn ∧ 0 = ff := by
        rw [HNX.out] at hor
        omega
      clear hor
      have c_r : ∀ i : Nat, w6.cell? ⟨w3.heap.size + 1, i, none⟩ = #[.int .i64 NX, .int .i64 NX, .int .i64 (U1 - U0 - 1)][i]? := by have h := K6.out.cell (.head _); dsimp only at h; rw [size_of] at h; exact h
      have l_r : w3.heap.size + 1 < w6.heap.size := by have h := K6.out.lt (.head _); dsimp only at h; rw [size_of] at h; exact h
      have c_x : ∀ i : Nat, w6.cell? ⟨w3.heap.size, i, none⟩ = #[.int .u8 2, .int .i64 NX][i]? := by have h := K6.out.cell (.tail _ (.head _)); dsimp only at h; exact h
      have l_x : w3.heap.size < w6.heap.size := by have h := K6.out.lt (.tail _ (.head _)); dsimp only at h; exact h
      have c_s : ∀ i : Nat, w6.cell? ⟨w2.heap.size, i, none⟩ = #[.int .u8 0, .int .i64 n][i]? := by have h := K6.out.cell (.tail _ (.tail _ (.head _))); dsimp only at h; exact h
      have l_s : w2.heap.size < w6.heap.size := by have h := K6.out.lt (.tail _ (.tail _ (.head _))); dsimp only at h; exact h
      have c_p : ∀ i : Nat, w6.cell? ⟨w1.heap.size, i, none⟩ = #[.int .i64 e, .int .i64 o, .int .i64 m][i]? := by have h := K6.out.cell (.tail _ (.tail _ (.tail _ (.head _)))); dsimp only at h; exact h
      have l_p : w1.heap.size < w6.heap.size := by have h := K6.out.lt (.tail _ (.tail _ (.tail _ (.head _)))); dsimp only at h; exact h
      go_wp2_with fail
      refine (awake_any _).mono ?_
      rintro v w7 ⟨rfl, hb⟩
      have K7 := Lib.hid (K6.out.on hb)
      clear hb
      clear c_r l_r c_x l_x c_s l_s c_p l_p
      go_wp2
      go_ret
      exact ⟨rfl, K7.out.below⟩
    · have d4 : (NX % e == o) = true := by rw [(Du.due_iff hk.e1 hk.o0 hk.o1 hn0).2 hnd]; simp
      have d5 := hnl a2
      have d6 : decide (0 ≤ NX) = true := decide_eq_true hn0
      have d7 : decide (NX ≤ fr) = false := decide_eq_false (by omega)
      have d8 : decide (tt < NX) = false := decide_eq_false (by omega)
      have d9 : (U1 - U0 == 0) = false := by simp; omega
      have da : decide (U1 - U0 - 1 < 0) = false := decide_eq_false (by omega)
      obtain ⟨rfl, rfl, rfl, rfl, rfl, rfl⟩ : 0 = st ∧ NX = x2 ∧ NX = r1 ∧ U1 - U0 - 1 = r3 ∧ 1 = x1 ∧ (-1) = r2 := ⟨by omega, by omega, by omega, by omega, by omega, by omega⟩
      have db : decide (NX + m ≤ tt) = false := decide_eq_false (by omega)
      go_wp2_with fail
      refine (is_ok e o m NX _ true hk hn0 (by omega) d4).mono ?_
      rintro v w5 ⟨rfl, hb⟩
      have K5 := Lib.hid (K4.out.on hb)
      clear hb
      clear c_r l_r l0_r c_x l_x l0_x c_s l_s l0_s c_p l_p l0_p
      have c_r : ∀ i : Nat, w5.cell? ⟨w3.heap.size + 1, i, none⟩ = #[.int .i64 NX, .int .i64 (-1), .int .i64 (U1 - U0 - 1)][i]? := by have h := K5.out.cell (.head _); dsimp only at h; rw [size_of] at h; exact h
      have l_r : w3.heap.size + 1 < w5.heap.size := by have h := K5.out.lt (.head _); dsimp only at h; rw [size_of] at h; exact h
      have c_x : ∀ i : Nat, w5.cell? ⟨w3.heap.size, i, none⟩ = #[.int .u8 1, .int .i64 NX][i]? := by have h := K5.out.cell (.tail _ (.head _)); dsimp only at h; exact h
      have l_x : w3.heap.size < w5.heap.size := by have h := K5.out.lt (.tail _ (.head _)); dsimp only at h; exact h
      have c_s : ∀ i : Nat, w5.cell? ⟨w2.heap.size, i, none⟩ = #[.int .u8 0, .int .i64 n][i]? := by have h := K5.out.cell (.tail _ (.tail _ (.head _))); dsimp only at h; exact h
      have l_s : w2.heap.size < w5.heap.size := by have h := K5.out.lt (.tail _ (.tail _ (.head _))); dsimp only at h; exact h
      have c_p : ∀ i : Nat, w5.cell? ⟨w1.heap.size, i, none⟩ = #[.int .i64 e, .int .i64 o, .int .i64 m][i]? := by have h := K5.out.cell (.tail _ (.tail _ (.tail _ (.head _)))); dsimp only at h; exact h
      have l_p : w1.heap.size < w5.heap.size := by have h := K5.out.lt (.tail _ (.tail _ (.tail _ (.head _)))); dsimp only at h; exact h
      go_wp2_with fail
      refine (next_ok e o m fr _ hk fr0 (by omega)).mono ?_
      rintro v w6 ⟨nn, ff, rfl, hor, hb⟩
      have K6 := Lib.hid (K5.out.on hb)
      clear hb
      clear c_r l_r c_x l_x c_s l_s c_p l_p
      obtain ⟨rfl, rfl⟩ : NX = nn ∧ 0 = ff := by
        rw [HNX.out] at hor
        omega
      clear hor
      have c_r : ∀ i : Nat, w6.cell? ⟨w3.heap.size + 1, i, none⟩ = #[.int .i64 NX, .int .i64 (-1), .int .i64 (U1 - U0 - 1)][i]? := by have h := K6.out.cell (.head _); dsimp only at h; rw [size_of] at h; exact h
      have l_r : w3.heap.size + 1 < w6.heap.size := by have h := K6.out.lt (.head _); dsimp only at h; rw [size_of] at h; exact h
      have c_x : ∀ i : Nat, w6.cell? ⟨w3.heap.size, i, none⟩ = #[.int .u8 1, .int .i64 NX][i]? := by have h := K6.out.cell (.tail _ (.head _)); dsimp only at h; exact h
      have l_x : w3.heap.size < w6.heap.size := by have h := K6.out.lt (.tail _ (.head _)); dsimp only at h; exact h
      have c_s : ∀ i : Nat, w6.cell? ⟨w2.heap.size, i, none⟩ = #[.int .u8 0, .int .i64 n][i]? := by have h := K6.out.cell (.tail _ (.tail _ (.head _))); dsimp only at h; exact h
      have l_s : w2.heap.size < w6.heap.size := by have h := K6.out.lt (.tail _ (.tail _ (.head _))); dsimp only at h; exact h
      have c_p : ∀ i : Nat, w6.cell? ⟨w1.heap.size, i, none⟩ = #[.int .i64 e, .int .i64 o, .int .i64 m][i]? := by have h := K6.out.cell (.tail _ (.tail _ (.tail _ (.head _)))); dsimp only at h; exact h
      have l_p : w1.heap.size < w6.heap.size := by have h := K6.out.lt (.tail _ (.tail _ (.tail _ (.head _)))); dsimp only at h; exact h
      go_wp2_with fail
      refine (awake_any _).mono ?_
      rintro v w7 ⟨rfl, hb⟩
      have K7 := Lib.hid (K6.out.on hb)
      clear hb
      clear c_r l_r c_x l_x c_s l_s c_p l_p
      go_wp2
      go_ret
      exact ⟨rfl, K7.out.below⟩
  · rcases a5 with ⟨b1, b2, b3⟩ | ⟨b1, b2, b3⟩
    · have d1 : decide (U1 - U0 < 0) = false := decide_eq_false (by omega)
      have d2 : 0 + (U1 - U0) = U1 - U0 := by omega
      obtain ⟨rfl, rfl, rfl, rfl, rfl, rfl⟩ : 1 = st ∧ n = x2 ∧ (-1) = r1 ∧ U1 - U0 = r3 ∧ 2 = x1 ∧ n = r2 := ⟨by omega, by omega, by omega, by omega, by omega, by omega⟩
      have d3 : decide (0 ≤ n) = true := decide_eq_true (by omega)
      have db : decide (n + m ≤ fr) = false := decide_eq_false (by omega)
      have dc : decide (tt < n + m) = false := decide_eq_false (by omega)
      go_wp2_with fail
      refine (awake_any _).mono ?_
      rintro v w5 ⟨rfl, hb⟩
      have K5 := Lib.hid (K4.out.on hb)
      clear hb
      go_wp2
      go_ret
      exact ⟨rfl, K5.out.below⟩
    · have d1 : decide (U1 - U0 < 0) = false := decide_eq_false (by omega)
      have d2 : 0 + (U1 - U0) = U1 - U0 := by omega
      obtain ⟨rfl, rfl, rfl, rfl, rfl, rfl⟩ : 1 = st ∧ n = x2 ∧ (-1) = r1 ∧ U1 - U0 = r3 ∧ 1 = x1 ∧ (-1) = r2 := ⟨by omega, by omega, by omega, by omega, by omega, by omega⟩
      have db : decide (n + m ≤ tt) = false := decide_eq_false (by omega)
      go_wp2_with fail
      refine (awake_any _).mono ?_
      rintro v w5 ⟨rfl, hb⟩
      have K5 := Lib.hid (K4.out.on hb)
      clear hb
      go_wp2
      go_ret
      exact ⟨rfl, K5.out.below⟩
end Go.Proofs.Ytpgdogcgdlijeaa
