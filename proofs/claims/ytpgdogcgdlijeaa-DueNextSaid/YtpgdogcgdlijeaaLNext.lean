/- DueNext, walked. Conditions: numbers of their types. -/
import Derived.Test.YtpgdogcgdlijeaaAwake
import Derived.Test.YtpgdogcgdlijeaaD7
import Derived.BigGuard
namespace Go.Proofs.Ytpgdogcgdlijeaa
open Go.RowKit
theorem last_bounds_ {e o m t : Int} (hk : Du.Ok e o m) (ht : o ≤ t) : 0 ≤ Du.last e o t ∧ Du.last e o t ≤ t ∧ t < Du.last e o t + e := Du.last_bounds hk ht

set_option maxRecDepth 100000 in
set_option maxHeartbeats 8000000 in
theorem next_any (x y z q k : Int) (W : World) (hx : 0 ≤ x) (hy : 0 ≤ y) (hz : 0 ≤ z) (hq : 0 ≤ q) (hk0 : 0 ≤ k) :
    Calls Try.prog 8 #[.int .u64 x, .int .u64 y, .int .u64 z, .int .u64 q, .int .u64 k] W fun v w' => v = .returned (.bool true) ∧ Below W.heap.size W w' := by
  obtain ⟨e, o, m, hmade⟩ := made_of x y z
  have HM := Lib.hid hmade
  have hk := hmade.ok
  have e1 := hk.e1
  have e2 := hk.e2
  have o0 := hk.o0
  have o1 := hk.o1
  have m1 := hk.m1
  have m2 := hk.m2
  clear hmade
  have K0 := Lib.hid (Kp.start W)
  obtain ⟨fr, hfr, fr0, fr1⟩ : ∃ fr, q.tmod 140737488355328 = fr ∧ 0 ≤ fr ∧ fr < 140737488355328 := ⟨_, rfl, Int.tmod_nonneg _ hq, Int.tmod_lt_of_pos _ (by omega)⟩
  have w1_ : IntKind.u64.wrap fr = fr := IntWalk.u64_in _ (by omega)
  have w2_ : IntKind.i64.wrap fr = fr := IntWalk.i64_in _ (by omega)
  go_enter Try.func8, Try.ntmps8
  go_wp2_with fail
  refine (made_any x y z e o m _ hx hy hz HM.out).mono ?_
  rintro v w1 ⟨rfl, hb⟩
  have K1 := Lib.hid (K0.out.on hb)
  clear hb
  go_wp2_with fail
  refine (next_ok e o m fr _ hk fr0 (by omega)).mono ?_
  rintro v w2 ⟨D, f, rfl, hor, hb⟩
  have K2 := Lib.hid ((K1.out.add _ _).on hb)
  clear hb
  have hnn := Du.next_near (o := o) hk fr0
  have hng := Du.next_gt (o := o) (t := fr) hk.e1
  have hn0 := Du.next_ge (o := o) (t := fr) hk.e1 hk.o0
  obtain ⟨hD, rfl⟩ : Du.next e o fr = D ∧ f = 0 := by omega
  have hmod : D % e = o := by rw [← hD]; exact Du.next_mod hk
  have hbt := fun k h1 h2 => Du.between (k := k) hk fr0 h1 h2
  have hc1 : Du.upTo e o D - Du.upTo e o fr = 1 := by rw [← hD, Du.up_at hk]; omega
  have hc0 : Du.upTo e o (D - 1) - Du.upTo e o fr = 0 := by rw [Du.up_before (w := D - 1) (t := fr) hk (by omega) (by omega)]; omega
  have hll : Du.last e o D = D := by rw [← hD]; exact Du.last_next hk
  have hnx2 : Du.next e o D = D + e := by rw [← hD]; exact Du.next_next hk
  have hlt := Du.last_then (e := e) (o := o) (t := fr)
  have hnf := fun h => Du.next_first (e := e) (o := o) (t := fr) h
  have hlb := fun h => last_bounds_ (t := fr) hk h
  rw [hD] at hnn hng hn0 hbt hlt hnf
  have HD := Lib.hid hD
  have HLT := Lib.hid hlt
  have HLL := Lib.hid hll
  have HNX2 := Lib.hid hnx2
  have HNF := Lib.hid hnf
  have HLB := Lib.hid hlb
  clear hD hor hlt hll hnx2 hnf hlb
  have hmd : D.tmod e = o := by rw [Int.tmod_eq_emod_of_nonneg hn0]; exact hmod
  have hz0 : ¬ e = 0 := by omega
  have v1 : IntKind.i64.wrap o = o := IntWalk.i64_in _ (by omega)
  have v2 : IntKind.i64.wrap (fr + e) = fr + e := IntWalk.i64_in _ (by omega)
  have v3 : decide (D ≤ fr) = false := decide_eq_false (by omega)
  have v4 : decide (fr + e < D) = false := decide_eq_false (by omega)
  have v5 : IntKind.i64.wrap (fr + 1) = fr + 1 := IntWalk.i64_in _ (by omega)
  have v6 : IntKind.i64.wrap (D - fr) = D - fr := IntWalk.i64_in _ (by omega)
  have v7 : IntKind.u64.wrap (D - fr) = D - fr := IntWalk.u64_in _ (by omega)
  have v8 : ¬ D - fr = 0 := by omega
  have v9 : IntKind.i64.wrap (D - 1) = D - 1 := IntWalk.i64_in _ (by omega)
  have va : IntKind.i64.wrap (D + e) = D + e := IntWalk.i64_in _ (by omega)
  obtain ⟨kk, hkk, kk0, kk1⟩ : ∃ d, k.tmod (D - fr) = d ∧ 0 ≤ d ∧ d < D - fr := ⟨_, rfl, Int.tmod_nonneg _ hk0, Int.tmod_lt_of_pos _ (by omega)⟩
  have vb : IntKind.u64.wrap kk = kk := IntWalk.u64_in _ (by omega)
  have vc : IntKind.i64.wrap kk = kk := IntWalk.i64_in _ (by omega)
  obtain ⟨kt, hkt⟩ : ∃ t, fr + 1 + kk = t := ⟨_, rfl⟩
  have vd : IntKind.i64.wrap kt = kt := IntWalk.i64_in _ (by omega)
  have HB := Lib.hid (hbt kt (by omega) (by omega))
  have him : (D % e == o) = true := by rw [hmod]; simp
  clear hbt hmod
  have c_p : ∀ i : Nat, w2.cell? ⟨w1.heap.size, i, none⟩ = #[.int .i64 e, .int .i64 o, .int .i64 m][i]? := by have h := K2.out.cell (.head _); dsimp only at h; exact h
  have l_p : w1.heap.size < w2.heap.size := by have h := K2.out.lt (.head _); dsimp only at h; exact h
  have KX := K2
  go_wp2
  go_region_held3 (fun W' => W'.cell? ⟨w1.heap.size, 0, none⟩ = some (.int .i64 e) ∧ W'.cell? ⟨w1.heap.size, 1, none⟩ = some (.int .i64 o) ∧ W'.cell? ⟨w1.heap.size, 2, none⟩ = some (.int .i64 m)) (first | (go_keep; done) | exact (Kp.plan KX.out) | exact (Kp.plan (Kp.drew KX.out)) | exact (Kp.plan (Kp.drew (by assumption))) | exact (Kp.plan (by assumption)))
    (first | (go_at_call 21; refine (is_kp D true hk hn0 (by omega) him (by first | assumption | exact KX.out | exact Kp.drew KX.out | exact Kp.drew (by assumption))).mono ?_; rintro v w3 ⟨rfl, n9⟩))
  clear KX
  have K3 := Lib.hid n9
  clear n9 him hmd
  clear c_p l_p
  have c_p : ∀ i : Nat, w3.cell? ⟨w1.heap.size, i, none⟩ = #[.int .i64 e, .int .i64 o, .int .i64 m][i]? := by have h := K3.out.cell (.head _); dsimp only at h; exact h
  have l_p : w1.heap.size < w3.heap.size := by have h := K3.out.lt (.head _); dsimp only at h; exact h
  go_wp2_with fail
  refine (count_ok e o m fr D _ hk fr0 (by omega) (by omega)).mono ?_
  rintro v w4 ⟨rfl, hb⟩
  have K4 := Lib.hid (K3.out.on hb)
  clear hb
  clear c_p l_p
  have c_p : ∀ i : Nat, w4.cell? ⟨w1.heap.size, i, none⟩ = #[.int .i64 e, .int .i64 o, .int .i64 m][i]? := by have h := K4.out.cell (.head _); dsimp only at h; exact h
  have l_p : w1.heap.size < w4.heap.size := by have h := K4.out.lt (.head _); dsimp only at h; exact h
  go_wp2_with fail
  refine (count_ok e o m fr (D - 1) _ hk fr0 (by omega) (by omega)).mono ?_
  rintro v w5 ⟨rfl, hb⟩
  have K5 := Lib.hid (K4.out.on hb)
  clear hb
  clear c_p l_p
  have c_p : ∀ i : Nat, w5.cell? ⟨w1.heap.size, i, none⟩ = #[.int .i64 e, .int .i64 o, .int .i64 m][i]? := by have h := K5.out.cell (.head _); dsimp only at h; exact h
  have l_p : w1.heap.size < w5.heap.size := by have h := K5.out.lt (.head _); dsimp only at h; exact h
  go_wp2_with fail
  refine (is_ok e o m kt _ (kt == D) hk (by omega) (by omega) HB.out).mono ?_
  rintro v w6 ⟨rfl, hb⟩
  have K6 := Lib.hid (K5.out.on hb)
  clear hb
  clear c_p l_p
  have c_p : ∀ i : Nat, w6.cell? ⟨w1.heap.size, i, none⟩ = #[.int .i64 e, .int .i64 o, .int .i64 m][i]? := by have h := K6.out.cell (.head _); dsimp only at h; exact h
  have l_p : w1.heap.size < w6.heap.size := by have h := K6.out.lt (.head _); dsimp only at h; exact h
  go_wp2_with fail
  refine (last_ok e o m D _ hk (by omega) (by omega)).mono ?_
  rintro v w7 ⟨l1, f1, rfl, hl, hb⟩
  have K7 := Lib.hid (K6.out.on hb)
  clear hb
  clear c_p l_p
  obtain ⟨rfl, rfl⟩ : D = l1 ∧ 0 = f1 := by
    have h := HLL.out
    have h2 := (Du.upTo_spec (e := e) (o := o) (t := D) hk.e1).low
    have h3 := hc1
    have h4 := (Du.upTo_spec (e := e) (o := o) (t := fr) hk.e1).u0
    rw [h] at hl
    omega
  clear hl
  have c_p : ∀ i : Nat, w7.cell? ⟨w1.heap.size, i, none⟩ = #[.int .i64 e, .int .i64 o, .int .i64 m][i]? := by have h := K7.out.cell (.head _); dsimp only at h; exact h
  have l_p : w1.heap.size < w7.heap.size := by have h := K7.out.lt (.head _); dsimp only at h; exact h
  go_wp2_with fail
  refine (next_ok e o m D _ hk (by omega) (by omega)).mono ?_
  rintro v w8 ⟨n2, f2, rfl, hl, hb⟩
  have K8 := Lib.hid (K7.out.on hb)
  clear hb
  clear c_p l_p
  obtain ⟨rfl, rfl⟩ : n2 = D + e ∧ f2 = 0 := by
    have h := HNX2.out
    rw [h] at hl
    omega
  clear hl
  have c_p : ∀ i : Nat, w8.cell? ⟨w1.heap.size, i, none⟩ = #[.int .i64 e, .int .i64 o, .int .i64 m][i]? := by have h := K8.out.cell (.head _); dsimp only at h; exact h
  have l_p : w1.heap.size < w8.heap.size := by have h := K8.out.lt (.head _); dsimp only at h; exact h
  go_wp2_with fail
  refine (last_ok e o m fr _ hk fr0 (by omega)).mono ?_
  rintro v w9 ⟨l1, f1, rfl, hl, hb⟩
  have K9 := Lib.hid (K8.out.on hb)
  clear hb
  clear c_p l_p
  have c_p : ∀ i : Nat, w9.cell? ⟨w1.heap.size, i, none⟩ = #[.int .i64 e, .int .i64 o, .int .i64 m][i]? := by have h := K9.out.cell (.head _); dsimp only at h; exact h
  have l_p : w1.heap.size < w9.heap.size := by have h := K9.out.lt (.head _); dsimp only at h; exact h
  rcases hl with ⟨h1, h2, rfl⟩ | ⟨h1, rfl, rfl⟩
  · have h3 := HLB.out h1
    have h4 := HLT.out
    rw [← h2] at h3 h4
    clear h2
    have h5 : decide (l1 ≤ fr) = true := decide_eq_true (by omega)
    have h6 : IntKind.i64.wrap (l1 + e) = l1 + e := IntWalk.i64_in _ (by omega)
    have h7 : (D == l1 + e) = true := by simp; exact h4
    clear h4
    go_wp2_with fail
    refine (awake_any _).mono ?_
    rintro v w10 ⟨rfl, hb⟩
    have K10 := Lib.hid (K9.out.on hb)
    clear hb
    go_wp2
    go_ret
    exact ⟨rfl, K10.out.below⟩
  · have h7 : (D == o) = true := by simp; exact HNF.out h1
    go_wp2_with fail
    refine (awake_any _).mono ?_
    rintro v w10 ⟨rfl, hb⟩
    have K10 := Lib.hid (K9.out.on hb)
    clear hb
    go_wp2
    go_ret
    exact ⟨rfl, K10.out.below⟩
end Go.Proofs.Ytpgdogcgdlijeaa
