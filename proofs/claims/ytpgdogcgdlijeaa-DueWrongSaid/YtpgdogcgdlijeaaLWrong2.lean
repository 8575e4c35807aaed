/- DueWrong, walked: the plan is wrong in way 2. Conditions: numbers of their types. -/
import Derived.Test.YtpgdogcgdlijeaaLWrong
namespace Go.Proofs.Ytpgdogcgdlijeaa
open Go.RowKit
set_option maxRecDepth 100000 in
set_option maxHeartbeats 8000000 in
theorem wrong_2 (x y z h n : Int) (W : World) (hx : 0 ≤ x) (hy : 0 ≤ y) (hz : 0 ≤ z) (h0 : 0 ≤ h) (h255 : h ≤ 255) (hc : h.tmod 6 = 2) :
    Calls Try.prog 11 #[.int .u64 x, .int .u64 y, .int .u64 z, .int .u8 h, .int .i64 n] W fun v w' => v = .returned (.bool true) ∧ Below W.heap.size W w' := by
  obtain ⟨e, o, m, hmade⟩ := made_of x y z
  have HM := Lib.hid hmade
  have hk := hmade.ok
  have e1 := hk.e1
  have e2 := hk.e2
  have o0 := hk.o0
  have o1 := hk.o1
  have m1 := hk.m1
  have m2 := hk.m2
  clear hmade
  have K0 := Lib.hid (Kp.start W)
  obtain ⟨a1, ha1, hl1, -⟩ := ite_min (-1) n
  have hr : Du.right e a1 m = false := Du.right_false.2 (by omega)
  have hrt := right_ok hk
  have hz0 : ¬ e = 0 := by omega
  have w1_ : IntKind.i64.wrap (e + 1) = e + 1 := IntWalk.i64_in _ (by omega)
  obtain ⟨a2, ha2, hl2, -⟩ := ite_max 281474976710657 n
  obtain ⟨hm, hhm, hm0, hm1⟩ : ∃ d, h.tmod 200 = d ∧ 0 ≤ d ∧ d < 200 := ⟨_, rfl, Int.tmod_nonneg _ h0, Int.tmod_lt_of_pos _ (by omega)⟩
  have w2_ : IntKind.u8.wrap hm = hm := by rw [IntKind.wrap_u8]; omega
  have w3_ : IntKind.u8.wrap (3 + hm) = 3 + hm := by rw [IntKind.wrap_u8]; omega
  have w4_ : IntKind.i64.wrap h = h := IntWalk.i64_in _ (by omega)
  have w5_ : IntKind.i64.wrap (1 + h) = 1 + h := IntWalk.i64_in _ (by omega)
  have w6_ : IntKind.i64.wrap (o + m) = o + m := IntWalk.i64_in _ (by omega)
  have hdo : (o % e == o) = true := by rw [Int.emod_eq_of_lt o0 o1]; simp
  go_enter Try.func11, Try.ntmps11
  go_wp2_with fail
  refine (made_any x y z e o m _ hx hy hz HM.out).mono ?_
  rintro v w1 ⟨rfl, hb⟩
  have K1 := Lib.hid (K0.out.on hb)
  clear hb
  go_wp2_with fail
  refine (next_bad1 e a1 m 5 _ hr).mono ?_
  rintro v w2 ⟨rfl, hb⟩
  have K2 := Lib.hid (((K1.out.add _ _).add _ _).on hb)
  clear hb
  have c_bad : ∀ i : Nat, w2.cell? ⟨w1.heap.size + 1, i, none⟩ = #[.int .i64 e, .int .i64 a1, .int .i64 m][i]? := by have h := K2.out.cell (.head _); dsimp only at h; rw [size_of] at h; exact h
  have l_bad : w1.heap.size + 1 < w2.heap.size := by have h := K2.out.lt (.head _); dsimp only at h; rw [size_of] at h; exact h
  have c_p : ∀ i : Nat, w2.cell? ⟨w1.heap.size, i, none⟩ = #[.int .i64 e, .int .i64 o, .int .i64 m][i]? := by have h := K2.out.cell (.tail _ (.head _)); dsimp only at h; exact h
  have l_p : w1.heap.size < w2.heap.size := by have h := K2.out.lt (.tail _ (.head _)); dsimp only at h; exact h
  go_wp2_with fail
  refine (last_bad1 e a1 m 5 _ hr).mono ?_
  rintro v w3 ⟨rfl, hb⟩
  have K3 := Lib.hid (K2.out.on hb)
  clear hb
  clear c_bad l_bad c_p l_p
  have c_bad : ∀ i : Nat, w3.cell? ⟨w1.heap.size + 1, i, none⟩ = #[.int .i64 e, .int .i64 a1, .int .i64 m][i]? := by have h := K3.out.cell (.head _); dsimp only at h; rw [size_of] at h; exact h
  have l_bad : w1.heap.size + 1 < w3.heap.size := by have h := K3.out.lt (.head _); dsimp only at h; rw [size_of] at h; exact h
  have c_p : ∀ i : Nat, w3.cell? ⟨w1.heap.size, i, none⟩ = #[.int .i64 e, .int .i64 o, .int .i64 m][i]? := by have h := K3.out.cell (.tail _ (.head _)); dsimp only at h; exact h
  have l_p : w1.heap.size < w3.heap.size := by have h := K3.out.lt (.tail _ (.head _)); dsimp only at h; exact h
  go_wp2_with fail
  refine (count_bad1 e a1 m 5 6 _ hr).mono ?_
  rintro v w4 ⟨rfl, hb⟩
  have K4 := Lib.hid (K3.out.on hb)
  clear hb
  clear c_bad l_bad c_p l_p
  have c_bad : ∀ i : Nat, w4.cell? ⟨w1.heap.size + 1, i, none⟩ = #[.int .i64 e, .int .i64 a1, .int .i64 m][i]? := by have h := K4.out.cell (.head _); dsimp only at h; rw [size_of] at h; exact h
  have l_bad : w1.heap.size + 1 < w4.heap.size := by have h := K4.out.lt (.head _); dsimp only at h; rw [size_of] at h; exact h
  have c_p : ∀ i : Nat, w4.cell? ⟨w1.heap.size, i, none⟩ = #[.int .i64 e, .int .i64 o, .int .i64 m][i]? := by have h := K4.out.cell (.tail _ (.head _)); dsimp only at h; exact h
  have l_p : w1.heap.size < w4.heap.size := by have h := K4.out.lt (.tail _ (.head _)); dsimp only at h; exact h
  go_wp2_with fail
  refine (adv_bad1 e a1 m 5 6 0 0 _ (fun w => count_bad1 e a1 m 5 6 w hr)).mono ?_
  rintro v w5 ⟨rfl, hb⟩
  have K5 := Lib.hid (K4.out.on hb)
  clear hb
  clear c_bad l_bad c_p l_p
  have c_bad : ∀ i : Nat, w5.cell? ⟨w1.heap.size + 1, i, none⟩ = #[.int .i64 e, .int .i64 a1, .int .i64 m][i]? := by have h := K5.out.cell (.head _); dsimp only at h; rw [size_of] at h; exact h
  have l_bad : w1.heap.size + 1 < w5.heap.size := by have h := K5.out.lt (.head _); dsimp only at h; rw [size_of] at h; exact h
  have l0_bad : w1.heap.size + 1 < w5.heap.size + 1 := by omega
  have c_p : ∀ i : Nat, w5.cell? ⟨w1.heap.size, i, none⟩ = #[.int .i64 e, .int .i64 o, .int .i64 m][i]? := by have h := K5.out.cell (.tail _ (.head _)); dsimp only at h; exact h
  have l_p : w1.heap.size < w5.heap.size := by have h := K5.out.lt (.tail _ (.head _)); dsimp only at h; exact h
  have l0_p : w1.heap.size < w5.heap.size + 1 := by omega
  go_wp2_with fail
  refine (wake_bad e a1 m 0 0 5 _ (fun w => fits_bad1 e a1 m 0 0 5 w hr)).mono ?_
  rintro v w6 ⟨rfl, hb⟩
  have K6 := Lib.hid (((K5.out.add _ _).add _ _).on hb)
  clear hb
  clear c_bad l_bad l0_bad c_p l_p l0_p
  have c_bad : ∀ i : Nat, w6.cell? ⟨w1.heap.size + 1, i, none⟩ = #[.int .i64 e, .int .i64 a1, .int .i64 m][i]? := by have h := K6.out.cell (.tail _ (.tail _ (.head _))); dsimp only at h; rw [size_of] at h; exact h
  have l_bad : w1.heap.size + 1 < w6.heap.size := by have h := K6.out.lt (.tail _ (.tail _ (.head _))); dsimp only at h; rw [size_of] at h; exact h
  have c_p : ∀ i : Nat, w6.cell? ⟨w1.heap.size, i, none⟩ = #[.int .i64 e, .int .i64 o, .int .i64 m][i]? := by have h := K6.out.cell (.tail _ (.tail _ (.tail _ (.head _)))); dsimp only at h; exact h
  have l_p : w1.heap.size < w6.heap.size := by have h := K6.out.lt (.tail _ (.tail _ (.tail _ (.head _)))); dsimp only at h; exact h
  go_wp2_with fail
  refine (right_no e a1 m _ hr).mono ?_
  rintro v w7 ⟨rfl, hb⟩
  have K7 := Lib.hid (K6.out.on hb)
  clear hb
  clear c_bad l_bad c_p l_p
  have c_bad : ∀ i : Nat, w7.cell? ⟨w1.heap.size + 1, i, none⟩ = #[.int .i64 e, .int .i64 a1, .int .i64 m][i]? := by have h := K7.out.cell (.tail _ (.tail _ (.head _))); dsimp only at h; rw [size_of] at h; exact h
  have l_bad : w1.heap.size + 1 < w7.heap.size := by have h := K7.out.lt (.tail _ (.tail _ (.head _))); dsimp only at h; rw [size_of] at h; exact h
  have c_p : ∀ i : Nat, w7.cell? ⟨w1.heap.size, i, none⟩ = #[.int .i64 e, .int .i64 o, .int .i64 m][i]? := by have h := K7.out.cell (.tail _ (.tail _ (.tail _ (.head _)))); dsimp only at h; exact h
  have l_p : w1.heap.size < w7.heap.size := by have h := K7.out.lt (.tail _ (.tail _ (.tail _ (.head _)))); dsimp only at h; exact h
  go_wp2_with fail
  refine (is_bad1 e a1 m 5 _ hr).mono ?_
  rintro v w8 ⟨rfl, hb⟩
  have K8 := Lib.hid (K7.out.on hb)
  clear hb
  clear c_bad l_bad c_p l_p
  have c_bad : ∀ i : Nat, w8.cell? ⟨w1.heap.size + 1, i, none⟩ = #[.int .i64 e, .int .i64 a1, .int .i64 m][i]? := by have h := K8.out.cell (.tail _ (.tail _ (.head _))); dsimp only at h; rw [size_of] at h; exact h
  have l_bad : w1.heap.size + 1 < w8.heap.size := by have h := K8.out.lt (.tail _ (.tail _ (.head _))); dsimp only at h; rw [size_of] at h; exact h
  have c_p : ∀ i : Nat, w8.cell? ⟨w1.heap.size, i, none⟩ = #[.int .i64 e, .int .i64 o, .int .i64 m][i]? := by have h := K8.out.cell (.tail _ (.tail _ (.tail _ (.head _)))); dsimp only at h; exact h
  have l_p : w1.heap.size < w8.heap.size := by have h := K8.out.lt (.tail _ (.tail _ (.tail _ (.head _)))); dsimp only at h; exact h
  go_wp2_with fail
  refine (fits_bad1 e a1 m 0 0 5 _ hr).mono ?_
  rintro v w9 ⟨rfl, hb⟩
  have K9 := Lib.hid (K8.out.on hb)
  clear hb
  clear c_bad l_bad c_p l_p
  have c_p : ∀ i : Nat, w9.cell? ⟨w1.heap.size, i, none⟩ = #[.int .i64 e, .int .i64 o, .int .i64 m][i]? := by have h := K9.out.cell (.tail _ (.tail _ (.tail _ (.head _)))); dsimp only at h; exact h
  have l_p : w1.heap.size < w9.heap.size := by have h := K9.out.lt (.tail _ (.tail _ (.tail _ (.head _)))); dsimp only at h; exact h
  have l0_p : w1.heap.size < w9.heap.size + 1 := by omega
  go_wp2
  have KL : Kp W [(w9.heap.size, 3, #[.int .i64 a1, .int .i64 a2]), (w1.heap.size, 23, #[.int .i64 e, .int .i64 o, .int .i64 m])] (w9.alloc (.cells #[.int .i64 a1, .int .i64 a2] 3)) := Kp.less (K9.out.add 3 #[.int .i64 a1, .int .i64 a2]) (by
    intro x hx
    rcases List.mem_cons.1 hx with rfl | hx
    · exact .head _
    rcases List.mem_cons.1 hx with rfl | hx
    · exact (.tail _ (.tail _ (.tail _ (.tail _ (.head _)))))
    cases hx)
  have hib : w1.heap.size < w9.heap.size := by have h := K9.out.lt (.tail _ (.tail _ (.tail _ (.head _)))); dsimp only at h; exact h
  have KLH := Lib.hid KL
  clear KL c_p l_p l0_p
  go_loopw [158] (fun i wr => ∃ k : Nat, k ≤ 2 ∧ i = .int .i64 k ∧ Kp W [(w9.heap.size, 3, #[.int .i64 a1, .int .i64 a2]), (w1.heap.size, 23, #[.int .i64 e, .int .i64 o, .int .i64 m])] wr) (fun i _ => 2 - (intOf i).toNat)
  case atStart => exact ⟨0, by decide, rfl, KLH.out⟩
  case round =>
    obtain ⟨k, hk', rfl, hkp⟩ := hrel
    by_cases hlt : k < 2
    · obtain ⟨q, hq, hcq⟩ : ∃ q : Int, (q < 0 ∨ 281474976710656 < q) ∧ wr.cell? ⟨w9.heap.size, k, none⟩ = some (.int .i64 q) := by
        rcases (show k = 0 ∨ k = 1 by omega) with rfl | rfl
        · exact ⟨a1, by omega, hkp.cell (.head _) 0⟩
        · exact ⟨a2, by omega, hkp.cell (.head _) 1⟩
      have KR := Lib.hid hkp
      have c_p : ∀ i : Nat, wr.cell? ⟨w1.heap.size, i, none⟩ = #[.int .i64 e, .int .i64 o, .int .i64 m][i]? := hkp.cell (.tail _ (.head _))
      clear hkp
      have ht : Du.tick q = false := Du.tick_false.2 (by omega)
      obtain ⟨ca, cb, hca', hcb', hodd⟩ : ∃ ca cb, (if 0 < q then 0 else q) = ca ∧ (if q < 0 then 0 else q) = cb ∧ (Du.tick ca = false ∨ (Du.tick ca = true ∧ Du.tick cb = false)) := by
        rcases hq with hq | hq
        · exact ⟨q, 0, if_neg (by omega), if_pos (by omega), Or.inl ht⟩
        · exact ⟨0, q, if_pos (by omega), if_neg (by omega), Or.inr ⟨tick_ok (by omega) (by omega), ht⟩⟩
      have HODD := Lib.hid hodd
      clear hodd
      go_wp2_with fail
      refine (next_bad2 e o m q _ hrt ht).mono ?_
      rintro v w101 ⟨rfl, hb⟩
      have K101 := Lib.hid (KR.out.on hb)
      clear hb
      clear c_p
      have c_p : ∀ i : Nat, w101.cell? ⟨w1.heap.size, i, none⟩ = #[.int .i64 e, .int .i64 o, .int .i64 m][i]? := by have h := K101.out.cell (.tail _ (.head _)); dsimp only at h; exact h
      have l_p : w1.heap.size < w101.heap.size := by have h := K101.out.lt (.tail _ (.head _)); dsimp only at h; exact h
      go_wp2_with fail
      refine (last_bad2 e o m q _ hrt ht).mono ?_
      rintro v w102 ⟨rfl, hb⟩
      have K102 := Lib.hid (K101.out.on hb)
      clear hb
      clear c_p l_p
      have c_p : ∀ i : Nat, w102.cell? ⟨w1.heap.size, i, none⟩ = #[.int .i64 e, .int .i64 o, .int .i64 m][i]? := by have h := K102.out.cell (.tail _ (.head _)); dsimp only at h; exact h
      have l_p : w1.heap.size < w102.heap.size := by have h := K102.out.lt (.tail _ (.head _)); dsimp only at h; exact h
      go_wp2_with fail
      refine (count_odd e o m ca cb hrt HODD.out _).mono ?_
      rintro v w103 ⟨rfl, hb⟩
      have K103 := Lib.hid (K102.out.on hb)
      clear hb
      clear c_p l_p
      have c_p : ∀ i : Nat, w103.cell? ⟨w1.heap.size, i, none⟩ = #[.int .i64 e, .int .i64 o, .int .i64 m][i]? := by have h := K103.out.cell (.tail _ (.head _)); dsimp only at h; exact h
      have l_p : w1.heap.size < w103.heap.size := by have h := K103.out.lt (.tail _ (.head _)); dsimp only at h; exact h
      go_wp2_with fail
      refine (adv_bad1 e o m ca cb 0 0 _ (count_odd e o m ca cb hrt HODD.out)).mono ?_
      rintro v w104 ⟨rfl, hb⟩
      have K104 := Lib.hid (K103.out.on hb)
      clear hb
      clear c_p l_p
      have c_p : ∀ i : Nat, w104.cell? ⟨w1.heap.size, i, none⟩ = #[.int .i64 e, .int .i64 o, .int .i64 m][i]? := by have h := K104.out.cell (.tail _ (.head _)); dsimp only at h; exact h
      have l_p : w1.heap.size < w104.heap.size := by have h := K104.out.lt (.tail _ (.head _)); dsimp only at h; exact h
      have l0_p : w1.heap.size < w104.heap.size + 1 := by omega
      go_wp2_with fail
      refine (wake_bad e o m 0 0 q _ (fun w => fits_bad2 e o m 0 0 q w hrt ht)).mono ?_
      rintro v w105 ⟨rfl, hb⟩
      have K105 := Lib.hid (((K104.out.add _ _).add _ _).on hb)
      clear hb
      clear c_p l_p l0_p
      have c_p : ∀ i : Nat, w105.cell? ⟨w1.heap.size, i, none⟩ = #[.int .i64 e, .int .i64 o, .int .i64 m][i]? := by have h := K105.out.cell (.tail _ (.tail _ (.tail _ (.head _)))); dsimp only at h; exact h
      have l_p : w1.heap.size < w105.heap.size := by have h := K105.out.lt (.tail _ (.tail _ (.tail _ (.head _)))); dsimp only at h; exact h
      go_wp2_with fail
      refine (is_bad2 e o m q _ hrt ht).mono ?_
      rintro v w106 ⟨rfl, hb⟩
      have K106 := Lib.hid (K105.out.on hb)
      clear hb
      clear c_p l_p
      have c_p : ∀ i : Nat, w106.cell? ⟨w1.heap.size, i, none⟩ = #[.int .i64 e, .int .i64 o, .int .i64 m][i]? := by have h := K106.out.cell (.tail _ (.tail _ (.tail _ (.head _)))); dsimp only at h; exact h
      have l_p : w1.heap.size < w106.heap.size := by have h := K106.out.lt (.tail _ (.tail _ (.tail _ (.head _)))); dsimp only at h; exact h
      go_wp2_with fail
      refine (fits_bad2 e o m 0 0 q _ hrt ht).mono ?_
      rintro v w107 ⟨rfl, hb⟩
      have K107 := Lib.hid (K106.out.on hb)
      clear hb
      clear c_p l_p
      go_wp2
      go_roundw
      case rel => exact ⟨k + 1, by omega, by go_num, Kp.less K107.out (by
        intro x hx
        rcases List.mem_cons.1 hx with rfl | hx
        · exact (.tail _ (.tail _ (.head _)))
        rcases List.mem_cons.1 hx with rfl | hx
        · exact (.tail _ (.tail _ (.tail _ (.head _))))
        cases hx)⟩
      case measure => simp [intOf]; omega
    · have KR := Lib.hid hkp
      have c_p : ∀ i : Nat, wr.cell? ⟨w1.heap.size, i, none⟩ = #[.int .i64 e, .int .i64 o, .int .i64 m][i]? := hkp.cell (.tail _ (.head _))
      clear hkp
      go_wp2_with fail
      refine (count_bad4 e o m 9 8 _ hrt (tick_ok (by omega) (by omega)) (tick_ok (by omega) (by omega)) (by omega)).mono ?_
      rintro v w201 ⟨rfl, hb⟩
      have K201 := Lib.hid (KR.out.on hb)
      clear hb
      clear c_p
      have c_p : ∀ i : Nat, w201.cell? ⟨w1.heap.size, i, none⟩ = #[.int .i64 e, .int .i64 o, .int .i64 m][i]? := by have h := K201.out.cell (.tail _ (.head _)); dsimp only at h; exact h
      have l_p : w1.heap.size < w201.heap.size := by have h := K201.out.lt (.tail _ (.head _)); dsimp only at h; exact h
      go_wp2_with fail
      refine (adv_bad2 e o m (o + m) 281474976710656 1 o _ _ (fun w => count_ok e o m (o + m) 281474976710656 w hk (by omega) (by omega) (by omega)) (fun w => fits_bad4 e o m 1 o (o + m) w hk (tick_ok (by omega) (by omega)) (by omega) (by omega) rfl hdo (by omega) (by omega))).mono ?_
      rintro v w202 ⟨rfl, hb⟩
      have K202 := Lib.hid (K201.out.on hb)
      clear hb
      clear c_p l_p
      have c_p : ∀ i : Nat, w202.cell? ⟨w1.heap.size, i, none⟩ = #[.int .i64 e, .int .i64 o, .int .i64 m][i]? := by have h := K202.out.cell (.tail _ (.head _)); dsimp only at h; exact h
      have l_p : w1.heap.size < w202.heap.size := by have h := K202.out.lt (.tail _ (.head _)); dsimp only at h; exact h
      have l0_p : w1.heap.size < w202.heap.size + 1 := by omega
      go_wp2_with fail
      refine (adv_bad2 e o m 0 1 (3 + hm) 0 _ _ (fun w => count_ok e o m 0 1 w hk (by omega) (by omega) (by omega)) (fun w => fits_bad3 e o m (3 + hm) 0 0 w hk (tick_ok (by omega) (by omega)) (by omega) (by omega) (Or.inl ⟨by omega, by omega, by omega⟩))).mono ?_
      rintro v w203 ⟨rfl, hb⟩
      have K203 := Lib.hid (((K202.out.add _ _).add _ _).on hb)
      clear hb
      clear c_p l_p l0_p
      have c_p : ∀ i : Nat, w203.cell? ⟨w1.heap.size, i, none⟩ = #[.int .i64 e, .int .i64 o, .int .i64 m][i]? := by have h := K203.out.cell (.tail _ (.tail _ (.tail _ (.head _)))); dsimp only at h; exact h
      have l_p : w1.heap.size < w203.heap.size := by have h := K203.out.lt (.tail _ (.tail _ (.tail _ (.head _)))); dsimp only at h; exact h
      have l0_p : w1.heap.size < w203.heap.size + 1 := by omega
      go_wp2_with fail
      refine (wake_bad e o m 0 (1 + h) 300 _ (fun w => fits_bad3 e o m 0 (1 + h) 300 w hk (tick_ok (by omega) (by omega)) (by omega) (by omega) (Or.inr ⟨rfl, by omega⟩))).mono ?_
      rintro v w204 ⟨rfl, hb⟩
      have K204 := Lib.hid (((K203.out.add _ _).add _ _).on hb)
      clear hb
      clear c_p l_p l0_p
      go_wp2_with fail
      refine (awake_any _).mono ?_
      rintro v w205 ⟨rfl, hb⟩
      have K205 := Lib.hid (K204.out.on hb)
      clear hb
      go_wp2
      go_ret
      exact ⟨rfl, K205.out.below⟩
end Go.Proofs.Ytpgdogcgdlijeaa
