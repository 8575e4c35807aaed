/- The examples of the chapter: awake answers true, and leaves what was there as it was. Conditions: none. -/
import Derived.Test.YtpgdogcgdlijeaaD6
namespace Go.Proofs.Ytpgdogcgdlijeaa
open Go.RowKit
set_option maxRecDepth 100000 in
set_option maxHeartbeats 8000000 in
theorem awake_any (W : World) : Calls Try.prog 13 #[] W fun e w' => e = .returned (.bool true) ∧ Below W.heap.size W w' := by
  have hk : Du.Ok 10 7 4 := ⟨by omega, by omega, by omega, by omega, by omega, by omega⟩
  have K0 := Lib.hid (Kp.start W)
  go_enter Try.func13, Try.ntmps13
  go_wp2_with fail
  refine (make_ok 107 10 7 4 _ (by omega) (by omega) (by omega) (by omega) (by omega) (by omega)).mono ?_
  rintro v w1 ⟨rfl, hb⟩
  have K1 := Lib.hid (K0.out.on hb)
  clear hb
  go_wp2_with fail
  refine (next_ok 10 7 4 7 _ hk (by omega) (by omega)).mono ?_
  rintro v w2 ⟨n1, f1, rfl, hn, hb⟩
  have K2 := Lib.hid ((K1.out.add _ _).on hb)
  clear hb
  obtain ⟨rfl, rfl⟩ : n1 = 17 ∧ f1 = 0 := by rw [show Du.next 10 7 7 = 17 from by decide] at hn; omega
  clear hn
  have c_p : ∀ i : Nat, w2.cell? ⟨w1.heap.size, i, none⟩ = #[.int .i64 10, .int .i64 7, .int .i64 4][i]? := by have h := K2.out.cell (.head _); dsimp only at h; exact h
  have l_p : w1.heap.size < w2.heap.size := by have h := K2.out.lt (.head _); dsimp only at h; exact h
  go_wp2_with fail
  refine (last_ok 10 7 4 7 _ hk (by omega) (by omega)).mono ?_
  rintro v w3 ⟨n1, f1, rfl, hn, hb⟩
  have K3 := Lib.hid (K2.out.on hb)
  clear hb
  clear c_p l_p
  obtain ⟨rfl, rfl⟩ : n1 = 7 ∧ f1 = 0 := by rw [show Du.last 10 7 7 = 7 from by decide] at hn; omega
  clear hn
  have c_p : ∀ i : Nat, w3.cell? ⟨w1.heap.size, i, none⟩ = #[.int .i64 10, .int .i64 7, .int .i64 4][i]? := by have h := K3.out.cell (.head _); dsimp only at h; exact h
  have l_p : w1.heap.size < w3.heap.size := by have h := K3.out.lt (.head _); dsimp only at h; exact h
  go_wp2_with fail
  refine (count_ok 10 7 4 7 27 _ hk (by omega) (by omega) (by omega)).mono ?_
  rintro v w4 ⟨rfl, hb⟩
  have K4 := Lib.hid (K3.out.on hb)
  clear hb
  clear c_p l_p
  have hcn : Du.upTo 10 7 27 - Du.upTo 10 7 7 = 2 := by decide
  have c_p : ∀ i : Nat, w4.cell? ⟨w1.heap.size, i, none⟩ = #[.int .i64 10, .int .i64 7, .int .i64 4][i]? := by have h := K4.out.cell (.head _); dsimp only at h; exact h
  have l_p : w1.heap.size < w4.heap.size := by have h := K4.out.lt (.head _); dsimp only at h; exact h
  go_wp2_with fail
  refine (adv_ok 10 7 4 0 8 0 0 _ hk (by omega) (by omega) (by omega) (Or.inl ⟨rfl, rfl⟩)).mono ?_
  rintro v w5 ⟨s1, s2, r1, r2, r3, rfl, hadv, hb⟩
  have K5 := Lib.hid (K4.out.on hb)
  clear hb
  clear c_p l_p
  obtain ⟨rfl, rfl, rfl, rfl, rfl⟩ : s1 = 1 ∧ s2 = 7 ∧ r1 = 7 ∧ r2 = -1 ∧ r3 = 0 := by
    have h := hadv.law
    rw [show Du.upTo 10 7 8 = 1 from by decide, show Du.upTo 10 7 0 = 0 from by decide, show Du.next 10 7 0 = 7 from by decide] at h
    omega
  clear hadv
  have c_p : ∀ i : Nat, w5.cell? ⟨w1.heap.size, i, none⟩ = #[.int .i64 10, .int .i64 7, .int .i64 4][i]? := by have h := K5.out.cell (.head _); dsimp only at h; exact h
  have l_p : w1.heap.size < w5.heap.size := by have h := K5.out.lt (.head _); dsimp only at h; exact h
  have l0_p : w1.heap.size < w5.heap.size + 1 := by omega
  go_wp2_with fail
  refine (adv_ok 10 7 4 8 11 1 7 _ hk (by omega) (by omega) (by omega) (Or.inr ⟨⟨0, by omega, by omega⟩, by omega, by omega, Or.inl ⟨rfl, by omega⟩⟩)).mono ?_
  rintro v w6 ⟨s1, s2, r1, r2, r3, rfl, hadv, hb⟩
  have K6 := Lib.hid (((K5.out.add _ _).add _ _).on hb)
  clear hb
  clear c_p l_p l0_p
  obtain ⟨rfl, rfl, rfl, rfl, rfl⟩ : s1 = 2 ∧ s2 = 7 ∧ r1 = -1 ∧ r2 = 7 ∧ r3 = 0 := by
    have h := hadv.law
    rw [show Du.upTo 10 7 11 = 1 from by decide, show Du.upTo 10 7 8 = 1 from by decide, show Du.next 10 7 8 = 17 from by decide] at h
    omega
  clear hadv
  have c_r1 : ∀ i : Nat, w6.cell? ⟨w5.heap.size + 1, i, none⟩ = #[.int .i64 7, .int .i64 (-1), .int .i64 0][i]? := by have h := K6.out.cell (.head _); dsimp only at h; rw [size_of] at h; exact h
  have l_r1 : w5.heap.size + 1 < w6.heap.size := by have h := K6.out.lt (.head _); dsimp only at h; rw [size_of] at h; exact h
  have l0_r1 : w5.heap.size + 1 < w6.heap.size + 1 := by omega
  have c_a1 : ∀ i : Nat, w6.cell? ⟨w5.heap.size, i, none⟩ = #[.int .u8 1, .int .i64 7][i]? := by have h := K6.out.cell (.tail _ (.head _)); dsimp only at h; exact h
  have l_a1 : w5.heap.size < w6.heap.size := by have h := K6.out.lt (.tail _ (.head _)); dsimp only at h; exact h
  have l0_a1 : w5.heap.size < w6.heap.size + 1 := by omega
  have c_p : ∀ i : Nat, w6.cell? ⟨w1.heap.size, i, none⟩ = #[.int .i64 10, .int .i64 7, .int .i64 4][i]? := by have h := K6.out.cell (.tail _ (.tail _ (.head _))); dsimp only at h; exact h
  have l_p : w1.heap.size < w6.heap.size := by have h := K6.out.lt (.tail _ (.tail _ (.head _))); dsimp only at h; exact h
  have l0_p : w1.heap.size < w6.heap.size + 1 := by omega
  go_wp2_with fail
  refine (adv_ok 10 7 4 0 40 0 0 _ hk (by omega) (by omega) (by omega) (Or.inl ⟨rfl, rfl⟩)).mono ?_
  rintro v w7 ⟨s1, s2, r1, r2, r3, rfl, hadv, hb⟩
  have K7 := Lib.hid (((K6.out.add _ _).add _ _).on hb)
  clear hb
  clear c_r1 l_r1 l0_r1 c_a1 l_a1 l0_a1 c_p l_p l0_p
  obtain ⟨rfl, rfl, rfl, rfl, rfl⟩ : s1 = 2 ∧ s2 = 7 ∧ r1 = 7 ∧ r2 = 7 ∧ r3 = 3 := by
    have h := hadv.law
    rw [show Du.upTo 10 7 40 = 4 from by decide, show Du.upTo 10 7 0 = 0 from by decide, show Du.next 10 7 0 = 7 from by decide] at h
    omega
  clear hadv
  have c_r2 : ∀ i : Nat, w7.cell? ⟨w6.heap.size + 1, i, none⟩ = #[.int .i64 (-1), .int .i64 7, .int .i64 0][i]? := by have h := K7.out.cell (.head _); dsimp only at h; rw [size_of] at h; exact h
  have l_r2 : w6.heap.size + 1 < w7.heap.size := by have h := K7.out.lt (.head _); dsimp only at h; rw [size_of] at h; exact h
  have l0_r2 : w6.heap.size + 1 < w7.heap.size + 1 := by omega
  have c_a2 : ∀ i : Nat, w7.cell? ⟨w6.heap.size, i, none⟩ = #[.int .u8 2, .int .i64 7][i]? := by have h := K7.out.cell (.tail _ (.head _)); dsimp only at h; exact h
  have l_a2 : w6.heap.size < w7.heap.size := by have h := K7.out.lt (.tail _ (.head _)); dsimp only at h; exact h
  have l0_a2 : w6.heap.size < w7.heap.size + 1 := by omega
  have c_r1 : ∀ i : Nat, w7.cell? ⟨w5.heap.size + 1, i, none⟩ = #[.int .i64 7, .int .i64 (-1), .int .i64 0][i]? := by have h := K7.out.cell (.tail _ (.tail _ (.head _))); dsimp only at h; rw [size_of] at h; exact h
  have l_r1 : w5.heap.size + 1 < w7.heap.size := by have h := K7.out.lt (.tail _ (.tail _ (.head _))); dsimp only at h; rw [size_of] at h; exact h
  have l0_r1 : w5.heap.size + 1 < w7.heap.size + 1 := by omega
  have c_a1 : ∀ i : Nat, w7.cell? ⟨w5.heap.size, i, none⟩ = #[.int .u8 1, .int .i64 7][i]? := by have h := K7.out.cell (.tail _ (.tail _ (.tail _ (.head _)))); dsimp only at h; exact h
  have l_a1 : w5.heap.size < w7.heap.size := by have h := K7.out.lt (.tail _ (.tail _ (.tail _ (.head _)))); dsimp only at h; exact h
  have l0_a1 : w5.heap.size < w7.heap.size + 1 := by omega
  have c_p : ∀ i : Nat, w7.cell? ⟨w1.heap.size, i, none⟩ = #[.int .i64 10, .int .i64 7, .int .i64 4][i]? := by have h := K7.out.cell (.tail _ (.tail _ (.tail _ (.tail _ (.head _))))); dsimp only at h; exact h
  have l_p : w1.heap.size < w7.heap.size := by have h := K7.out.lt (.tail _ (.tail _ (.tail _ (.tail _ (.head _))))); dsimp only at h; exact h
  have l0_p : w1.heap.size < w7.heap.size + 1 := by omega
  go_wp2_with fail
  refine (wake_ok 10 7 4 1 7 8 _ hk (by omega) (by omega) (Or.inr ⟨⟨0, by omega, by omega⟩, by omega, by omega, Or.inl ⟨rfl, by omega⟩⟩)).mono ?_
  rintro v w8 ⟨n1, f1, rfl, hn, hb⟩
  have K8 := Lib.hid (((K7.out.add _ _).add _ _).on hb)
  clear hb
  clear c_r2 l_r2 l0_r2 c_a2 l_a2 l0_a2 c_r1 l_r1 l0_r1 c_a1 l_a1 l0_a1 c_p l_p l0_p
  obtain ⟨rfl, rfl⟩ : n1 = 11 ∧ f1 = 0 := by
    have h := hn.law
    rw [show Du.next 10 7 8 = 17 from by decide] at h
    omega
  clear hn
  have c_r3 : ∀ i : Nat, w8.cell? ⟨w7.heap.size + 1, i, none⟩ = #[.int .i64 7, .int .i64 7, .int .i64 3][i]? := by have h := K8.out.cell (.head _); dsimp only at h; rw [size_of] at h; exact h
  have l_r3 : w7.heap.size + 1 < w8.heap.size := by have h := K8.out.lt (.head _); dsimp only at h; rw [size_of] at h; exact h
  have c_a3 : ∀ i : Nat, w8.cell? ⟨w7.heap.size, i, none⟩ = #[.int .u8 2, .int .i64 7][i]? := by have h := K8.out.cell (.tail _ (.head _)); dsimp only at h; exact h
  have l_a3 : w7.heap.size < w8.heap.size := by have h := K8.out.lt (.tail _ (.head _)); dsimp only at h; exact h
  have c_r2 : ∀ i : Nat, w8.cell? ⟨w6.heap.size + 1, i, none⟩ = #[.int .i64 (-1), .int .i64 7, .int .i64 0][i]? := by have h := K8.out.cell (.tail _ (.tail _ (.head _))); dsimp only at h; rw [size_of] at h; exact h
  have l_r2 : w6.heap.size + 1 < w8.heap.size := by have h := K8.out.lt (.tail _ (.tail _ (.head _))); dsimp only at h; rw [size_of] at h; exact h
  have c_a2 : ∀ i : Nat, w8.cell? ⟨w6.heap.size, i, none⟩ = #[.int .u8 2, .int .i64 7][i]? := by have h := K8.out.cell (.tail _ (.tail _ (.tail _ (.head _)))); dsimp only at h; exact h
  have l_a2 : w6.heap.size < w8.heap.size := by have h := K8.out.lt (.tail _ (.tail _ (.tail _ (.head _)))); dsimp only at h; exact h
  have c_r1 : ∀ i : Nat, w8.cell? ⟨w5.heap.size + 1, i, none⟩ = #[.int .i64 7, .int .i64 (-1), .int .i64 0][i]? := by have h := K8.out.cell (.tail _ (.tail _ (.tail _ (.tail _ (.head _))))); dsimp only at h; rw [size_of] at h; exact h
  have l_r1 : w5.heap.size + 1 < w8.heap.size := by have h := K8.out.lt (.tail _ (.tail _ (.tail _ (.tail _ (.head _))))); dsimp only at h; rw [size_of] at h; exact h
  have c_a1 : ∀ i : Nat, w8.cell? ⟨w5.heap.size, i, none⟩ = #[.int .u8 1, .int .i64 7][i]? := by have h := K8.out.cell (.tail _ (.tail _ (.tail _ (.tail _ (.tail _ (.head _)))))); dsimp only at h; exact h
  have l_a1 : w5.heap.size < w8.heap.size := by have h := K8.out.lt (.tail _ (.tail _ (.tail _ (.tail _ (.tail _ (.head _)))))); dsimp only at h; exact h
  have c_p : ∀ i : Nat, w8.cell? ⟨w1.heap.size, i, none⟩ = #[.int .i64 10, .int .i64 7, .int .i64 4][i]? := by have h := K8.out.cell (.tail _ (.tail _ (.tail _ (.tail _ (.tail _ (.tail _ (.head _))))))); dsimp only at h; exact h
  have l_p : w1.heap.size < w8.heap.size := by have h := K8.out.lt (.tail _ (.tail _ (.tail _ (.tail _ (.tail _ (.tail _ (.head _))))))); dsimp only at h; exact h
  go_wp2
  go_ret
  exact ⟨rfl, K8.out.below⟩
end Go.Proofs.Ytpgdogcgdlijeaa
