/- DueSpread, walked. Conditions: numbers of their types. -/
import Derived.Test.YtpgdogcgdlijeaaAwake
import Derived.Test.YtpgdogcgdlijeaaD7
import Derived.BigGuard
namespace Go.Proofs.Ytpgdogcgdlijeaa
open Go.RowKit
theorem Kp.four {W0 W : World} {z1 z2 z3 y1 y2 y3 x1 x2 x3 p1 p2 p3 : Value} {gz gy gx gp : Nat} {tz ty tx tp : TypeId} (h : Kp W0 [(gz, tz, #[z1, z2, z3]), (gy, ty, #[y1, y2, y3]), (gx, tx, #[x1, x2, x3]), (gp, tp, #[p1, p2, p3])] W) :
    W.cell? ⟨gz, 0, none⟩ = some z1 ∧ W.cell? ⟨gz, 1, none⟩ = some z2 ∧ W.cell? ⟨gz, 2, none⟩ = some z3 ∧ W.cell? ⟨gy, 0, none⟩ = some y1 ∧ W.cell? ⟨gy, 1, none⟩ = some y2 ∧ W.cell? ⟨gy, 2, none⟩ = some y3 ∧
    W.cell? ⟨gx, 0, none⟩ = some x1 ∧ W.cell? ⟨gx, 1, none⟩ = some x2 ∧ W.cell? ⟨gx, 2, none⟩ = some x3 ∧ W.cell? ⟨gp, 0, none⟩ = some p1 ∧ W.cell? ⟨gp, 1, none⟩ = some p2 ∧ W.cell? ⟨gp, 2, none⟩ = some p3 :=
  ⟨h.cell (.head _) 0, h.cell (.head _) 1, h.cell (.head _) 2, h.cell (.tail _ (.head _)) 0, h.cell (.tail _ (.head _)) 1, h.cell (.tail _ (.head _)) 2,
   h.cell (.tail _ (.tail _ (.head _))) 0, h.cell (.tail _ (.tail _ (.head _))) 1, h.cell (.tail _ (.tail _ (.head _))) 2, h.cell (.tail _ (.tail _ (.tail _ (.head _)))) 0, h.cell (.tail _ (.tail _ (.tail _ (.head _)))) 1, h.cell (.tail _ (.tail _ (.tail _ (.head _)))) 2⟩
theorem awake_kp {W0 W : World} {L : List (Nat × TypeId × Array Value)} (h : Kp W0 L W) : Calls Try.prog 13 #[] W fun v w' => v = .returned (.bool true) ∧ Kp W0 L w' :=
  (awake_any W).mono fun _ _ ⟨he, k⟩ => ⟨he, h.on k⟩
theorem Kp.fill {W0 W : World} {t : TypeId} {g : Nat} {u0 u1 u2 v0 v1 v2 : Value} {a b c : Nat × TypeId × Array Value} (h : Kp W0 [(g, t, #[u0, u1, u2]), a, b, c] W) (h0 : W0.heap.size ≤ g) (h1 : a.1 ≠ g) (h2 : b.1 ≠ g) (h3 : c.1 ≠ g) :
    Kp W0 [(g, t, #[v0, v1, v2]), a, b, c] (((W.setCell ⟨g, 0, none⟩ v0).setCell ⟨g, 1, none⟩ v1).setCell ⟨g, 2, none⟩ v2) :=
  ⟨((h.below.setCell (p := ⟨g, 0, none⟩) h0 _).setCell (p := ⟨g, 1, none⟩) h0 _).setCell (p := ⟨g, 2, none⟩) h0 _, fun x hx => by
    have th : ∀ y : Nat × TypeId × Array Value, y.1 ≠ g → Has W y.1 y.2.1 y.2.2 → Has (((W.setCell ⟨g, 0, none⟩ v0).setCell ⟨g, 1, none⟩ v1).setCell ⟨g, 2, none⟩ v2) y.1 y.2.1 y.2.2 :=
      fun y hy hh => ((hh.there (p := ⟨g, 0, none⟩) hy _).there (p := ⟨g, 1, none⟩) hy _).there (p := ⟨g, 2, none⟩) hy _
    rcases List.mem_cons.1 hx with rfl | hx
    · exact (((h.has _ (.head _)).here 0 v0).here 1 v1).here 2 v2
    rcases List.mem_cons.1 hx with rfl | hx
    · exact th _ h1 (h.has _ (.tail _ (.head _)))
    rcases List.mem_cons.1 hx with rfl | hx
    · exact th _ h2 (h.has _ (.tail _ (.tail _ (.head _))))
    rcases List.mem_cons.1 hx with rfl | hx
    · exact th _ h3 (h.has _ (.tail _ (.tail _ (.tail _ (.head _)))))
    cases hx⟩
theorem Kp.plan4 {W0 W : World} {e o m : Int} {g : Nat} {a b c : Nat × TypeId × Array Value} (h : Kp W0 [c, a, b, (g, 23, #[.int .i64 e, .int .i64 o, .int .i64 m])] W) : W.cell? ⟨g, 0, none⟩ = some (.int .i64 e) ∧ W.cell? ⟨g, 1, none⟩ = some (.int .i64 o) ∧ W.cell? ⟨g, 2, none⟩ = some (.int .i64 m) :=
  ⟨h.cell (.tail _ (.tail _ (.tail _ (.head _)))) 0, h.cell (.tail _ (.tail _ (.tail _ (.head _)))) 1, h.cell (.tail _ (.tail _ (.tail _ (.head _)))) 2⟩
theorem Kp.plan3 {W0 W : World} {e o m : Int} {g : Nat} {a b : Nat × TypeId × Array Value} (h : Kp W0 [a, b, (g, 23, #[.int .i64 e, .int .i64 o, .int .i64 m])] W) : W.cell? ⟨g, 0, none⟩ = some (.int .i64 e) ∧ W.cell? ⟨g, 1, none⟩ = some (.int .i64 o) ∧ W.cell? ⟨g, 2, none⟩ = some (.int .i64 m) :=
  ⟨h.cell (.tail _ (.tail _ (.head _))) 0, h.cell (.tail _ (.tail _ (.head _))) 1, h.cell (.tail _ (.tail _ (.head _))) 2⟩

set_option maxRecDepth 100000 in
set_option maxHeartbeats 8000000 in
theorem spread_any (x z a b : Int) (W : World) (hx : 0 ≤ x) (hz : 0 ≤ z) (ha : 0 ≤ a) (hb : 0 ≤ b) :
    Calls Try.prog 10 #[.int .u64 x, .int .u64 z, .int .u64 a, .int .u64 b] W fun v w' => v = .returned (.bool true) ∧ Below W.heap.size W w' := by
  obtain ⟨e, o, m, hmade⟩ := made_of x 0 z
  have HM := Lib.hid hmade
  have hk := hmade.ok
  have e1 := hk.e1
  have e2 := hk.e2
  have o0 := hk.o0
  have o1 := hk.o1
  have m1 := hk.m1
  have m2 := hk.m2
  obtain rfl : o = 0 := by rw [hmade.o_]; exact Int.zero_emod _
  clear hmade o0 o1
  have K0 := Lib.hid (Kp.start W)
  have hz0 : ¬ e = 0 := by omega
  obtain ⟨p, hp, p0, p1⟩ : ∃ p, a % e = p ∧ 0 ≤ p ∧ p < e := ⟨_, rfl, Int.emod_nonneg _ (by omega), Int.emod_lt_of_pos _ (by omega)⟩
  obtain ⟨q, hq, q0, q1⟩ : ∃ q, b % e = q ∧ 0 ≤ q ∧ q < e := ⟨_, rfl, Int.emod_nonneg _ (by omega), Int.emod_lt_of_pos _ (by omega)⟩
  have tp : a.tmod e = p := by rw [Int.tmod_eq_emod_of_nonneg ha]; exact hp
  have tq : b.tmod e = q := by rw [Int.tmod_eq_emod_of_nonneg hb]; exact hq
  have hpp : p % e = p := Int.emod_eq_of_lt p0 p1
  have v1 : IntKind.u64.wrap e = e := IntWalk.u64_in _ (by omega)
  have v2 : IntKind.u64.wrap p = p := IntWalk.u64_in _ (by omega)
  have v3 : IntKind.u64.wrap q = q := IntWalk.u64_in _ (by omega)
  have v4 : IntKind.i64.wrap p = p := IntWalk.i64_in _ (by omega)
  have HP := Lib.hid hp
  have HQ := Lib.hid hq
  have HPP := Lib.hid hpp
  have HKP := Lib.hid (⟨e1, e2, p0, p1, m1, m2⟩ : Du.Ok e p m)
  clear hp hq hpp
  go_enter Try.func10, Try.ntmps10
  go_wp2_with fail
  refine (made_any x 0 z e 0 m _ hx (by omega) hz HM.out).mono ?_
  rintro v w1 ⟨rfl, hb⟩
  have K1 := Lib.hid (K0.out.on hb)
  clear hb
  go_wp2_with fail
  refine (make_ok a e p m _ ha e1 e2 m1 m2 HP.out).mono ?_
  rintro v w2 ⟨rfl, hb⟩
  have K2 := Lib.hid ((K1.out.add _ _).on hb)
  clear hb
  have c_p : ∀ i : Nat, w2.cell? ⟨w1.heap.size, i, none⟩ = #[.int .i64 e, .int .i64 0, .int .i64 m][i]? := by have h := K2.out.cell (.head _); dsimp only at h; exact h
  have l_p : w1.heap.size < w2.heap.size := by have h := K2.out.lt (.head _); dsimp only at h; exact h
  have l0_p : w1.heap.size < w2.heap.size + 1 := by omega
  go_wp2_with fail
  refine (make_ok b e q m _ hb e1 e2 m1 m2 HQ.out).mono ?_
  rintro v w3 ⟨rfl, hb⟩
  have K3 := Lib.hid ((K2.out.add _ _).on hb)
  clear hb
  clear c_p l_p l0_p
  have c_x : ∀ i : Nat, w3.cell? ⟨w2.heap.size, i, none⟩ = #[.int .i64 e, .int .i64 p, .int .i64 m][i]? := by have h := K3.out.cell (.head _); dsimp only at h; exact h
  have l_x : w2.heap.size < w3.heap.size := by have h := K3.out.lt (.head _); dsimp only at h; exact h
  have l0_x : w2.heap.size < w3.heap.size + 1 := by omega
  have c_p : ∀ i : Nat, w3.cell? ⟨w1.heap.size, i, none⟩ = #[.int .i64 e, .int .i64 0, .int .i64 m][i]? := by have h := K3.out.cell (.tail _ (.head _)); dsimp only at h; exact h
  have l_p : w1.heap.size < w3.heap.size := by have h := K3.out.lt (.tail _ (.head _)); dsimp only at h; exact h
  have l0_p : w1.heap.size < w3.heap.size + 1 := by omega
  have KX := Lib.hid (K3.out.add 23 #[.int .i64 e, .int .i64 q, .int .i64 m])
  have b1 : W.heap.size ≤ w1.heap.size := K1.out.below.size
  have b2 : w1.heap.size < w2.heap.size := by have h := K2.out.lt (.head _); dsimp only at h; exact h
  have b3 : w2.heap.size < w3.heap.size := by have h := K3.out.lt (.head _); dsimp only at h; exact h
  go_wp2
  go_region_held3 (fun W' => W'.cell? ⟨w1.heap.size, 0, none⟩ = some (.int .i64 e) ∧ W'.cell? ⟨w1.heap.size, 1, none⟩ = some (.int .i64 0) ∧ W'.cell? ⟨w1.heap.size, 2, none⟩ = some (.int .i64 m)) (first | (go_keep; done) | exact (Kp.plan3 KX.out) | exact (Kp.plan3 (Kp.drew KX.out)) | exact (Kp.plan3 (by assumption)) | exact (Kp.plan4 (by assumption)) | exact (Kp.plan3 (Kp.drew (by assumption))) | exact (Kp.plan4 (Kp.add KX.out _ _)) | exact (Kp.plan4 (Kp.drew (Kp.add KX.out _ _))) | exact (Kp.plan4 (Kp.add (Kp.drew KX.out) _ _)) | exact (Kp.plan4 (Kp.add (by assumption) _ _)) | exact (Kp.plan4 (Kp.fill (by assumption) (by omega) (by dsimp only; omega) (by dsimp only; omega) (by dsimp only; omega))))
    (first | (go_at_call 14; refine (make_kp p p0 e1 e2 m1 m2 HPP.out (by first | assumption | exact KX.out | exact Kp.drew KX.out | exact Kp.drew (Kp.add KX.out _ _) | exact Kp.add (Kp.drew KX.out) _ _)).mono ?_; rintro v w4 ⟨rfl, n9⟩; (try rw [size_of] at n9); have cz := Kp.cell n9 (.head _); have fz := Kp.free n9 (.head _); (try dsimp only at cz fz)))
  · have KZ := Lib.hid (Kp.add n9 23 #[.int .i64 e, .int .i64 p, .int .i64 m])
    clear n9 cz fz
    rcases (show p = q ∨ p ≠ q by omega) with hpq | hpq
    · subst hpq
      go_wp2
      go_region_held3 (fun W' => W'.cell? ⟨w4.heap.size, 0, none⟩ = some (.int .i64 e) ∧ W'.cell? ⟨w4.heap.size, 1, none⟩ = some (.int .i64 p) ∧ W'.cell? ⟨w4.heap.size, 2, none⟩ = some (.int .i64 m) ∧ W'.cell? ⟨w3.heap.size, 0, none⟩ = some (.int .i64 e) ∧ W'.cell? ⟨w3.heap.size, 1, none⟩ = some (.int .i64 p) ∧ W'.cell? ⟨w3.heap.size, 2, none⟩ = some (.int .i64 m) ∧ W'.cell? ⟨w2.heap.size, 0, none⟩ = some (.int .i64 e) ∧ W'.cell? ⟨w2.heap.size, 1, none⟩ = some (.int .i64 p) ∧ W'.cell? ⟨w2.heap.size, 2, none⟩ = some (.int .i64 m) ∧ W'.cell? ⟨w1.heap.size, 0, none⟩ = some (.int .i64 e) ∧ W'.cell? ⟨w1.heap.size, 1, none⟩ = some (.int .i64 0) ∧ W'.cell? ⟨w1.heap.size, 2, none⟩ = some (.int .i64 m)) (first | (go_keep; done) | exact (Kp.four KZ.out) | exact (Kp.four (Kp.drew KZ.out)) | exact (Kp.four (by assumption)) | exact (Kp.four (Kp.drew (by assumption))))
        (first | (go_at_call 25; refine (right_kp HKP.out (by first | assumption | exact KZ.out | exact Kp.drew KZ.out | exact Kp.drew (by assumption))).mono ?_; rintro v w5 ⟨rfl, n9⟩) | (go_at_call 13; refine (awake_kp (by first | assumption | exact KZ.out | exact Kp.drew KZ.out | exact Kp.drew (by assumption))).mono ?_; rintro v w6 ⟨rfl, n9⟩))
      go_wp2
      go_ret
      exact ⟨rfl, Kp.below (by first | assumption | exact Kp.drew (by assumption))⟩
    · have dpq : (p == q) = false := by simp; exact hpq
      go_wp2
      go_region_held3 (fun W' => W'.cell? ⟨w4.heap.size, 0, none⟩ = some (.int .i64 e) ∧ W'.cell? ⟨w4.heap.size, 1, none⟩ = some (.int .i64 p) ∧ W'.cell? ⟨w4.heap.size, 2, none⟩ = some (.int .i64 m) ∧ W'.cell? ⟨w3.heap.size, 0, none⟩ = some (.int .i64 e) ∧ W'.cell? ⟨w3.heap.size, 1, none⟩ = some (.int .i64 q) ∧ W'.cell? ⟨w3.heap.size, 2, none⟩ = some (.int .i64 m) ∧ W'.cell? ⟨w2.heap.size, 0, none⟩ = some (.int .i64 e) ∧ W'.cell? ⟨w2.heap.size, 1, none⟩ = some (.int .i64 p) ∧ W'.cell? ⟨w2.heap.size, 2, none⟩ = some (.int .i64 m) ∧ W'.cell? ⟨w1.heap.size, 0, none⟩ = some (.int .i64 e) ∧ W'.cell? ⟨w1.heap.size, 1, none⟩ = some (.int .i64 0) ∧ W'.cell? ⟨w1.heap.size, 2, none⟩ = some (.int .i64 m)) (first | (go_keep; done) | exact (Kp.four KZ.out) | exact (Kp.four (Kp.drew KZ.out)) | exact (Kp.four (by assumption)) | exact (Kp.four (Kp.drew (by assumption))))
        (first | (go_at_call 25; refine (right_kp HKP.out (by first | assumption | exact KZ.out | exact Kp.drew KZ.out | exact Kp.drew (by assumption))).mono ?_; rintro v w5 ⟨rfl, n9⟩) | (go_at_call 13; refine (awake_kp (by first | assumption | exact KZ.out | exact Kp.drew KZ.out | exact Kp.drew (by assumption))).mono ?_; rintro v w6 ⟨rfl, n9⟩))
      go_wp2
      go_ret
      exact ⟨rfl, Kp.below (by first | assumption | exact Kp.drew (by assumption))⟩
  · have KZ := Lib.hid (Kp.fill (v0 := .int .i64 e) (v1 := .int .i64 p) (v2 := .int .i64 m) n9 (by omega) (by dsimp only; omega) (by dsimp only; omega) (by dsimp only; omega))
    clear n9 cz fz
    rcases (show p = q ∨ p ≠ q by omega) with hpq | hpq
    · subst hpq
      go_wp2
      go_region_held3 (fun W' => W'.cell? ⟨w3.heap.size + 1, 0, none⟩ = some (.int .i64 e) ∧ W'.cell? ⟨w3.heap.size + 1, 1, none⟩ = some (.int .i64 p) ∧ W'.cell? ⟨w3.heap.size + 1, 2, none⟩ = some (.int .i64 m) ∧ W'.cell? ⟨w3.heap.size, 0, none⟩ = some (.int .i64 e) ∧ W'.cell? ⟨w3.heap.size, 1, none⟩ = some (.int .i64 p) ∧ W'.cell? ⟨w3.heap.size, 2, none⟩ = some (.int .i64 m) ∧ W'.cell? ⟨w2.heap.size, 0, none⟩ = some (.int .i64 e) ∧ W'.cell? ⟨w2.heap.size, 1, none⟩ = some (.int .i64 p) ∧ W'.cell? ⟨w2.heap.size, 2, none⟩ = some (.int .i64 m) ∧ W'.cell? ⟨w1.heap.size, 0, none⟩ = some (.int .i64 e) ∧ W'.cell? ⟨w1.heap.size, 1, none⟩ = some (.int .i64 0) ∧ W'.cell? ⟨w1.heap.size, 2, none⟩ = some (.int .i64 m)) (first | (go_keep; done) | exact (Kp.four KZ.out) | exact (Kp.four (Kp.drew KZ.out)) | exact (Kp.four (by assumption)) | exact (Kp.four (Kp.drew (by assumption))))
        (first | (go_at_call 25; refine (right_kp HKP.out (by first | assumption | exact KZ.out | exact Kp.drew KZ.out | exact Kp.drew (by assumption))).mono ?_; rintro v w5 ⟨rfl, n9⟩) | (go_at_call 13; refine (awake_kp (by first | assumption | exact KZ.out | exact Kp.drew KZ.out | exact Kp.drew (by assumption))).mono ?_; rintro v w6 ⟨rfl, n9⟩))
      go_wp2
      go_ret
      exact ⟨rfl, Kp.below (by first | assumption | exact Kp.drew (by assumption))⟩
    · have dpq : (p == q) = false := by simp; exact hpq
      go_wp2
      go_region_held3 (fun W' => W'.cell? ⟨w3.heap.size + 1, 0, none⟩ = some (.int .i64 e) ∧ W'.cell? ⟨w3.heap.size + 1, 1, none⟩ = some (.int .i64 p) ∧ W'.cell? ⟨w3.heap.size + 1, 2, none⟩ = some (.int .i64 m) ∧ W'.cell? ⟨w3.heap.size, 0, none⟩ = some (.int .i64 e) ∧ W'.cell? ⟨w3.heap.size, 1, none⟩ = some (.int .i64 q) ∧ W'.cell? ⟨w3.heap.size, 2, none⟩ = some (.int .i64 m) ∧ W'.cell? ⟨w2.heap.size, 0, none⟩ = some (.int .i64 e) ∧ W'.cell? ⟨w2.heap.size, 1, none⟩ = some (.int .i64 p) ∧ W'.cell? ⟨w2.heap.size, 2, none⟩ = some (.int .i64 m) ∧ W'.cell? ⟨w1.heap.size, 0, none⟩ = some (.int .i64 e) ∧ W'.cell? ⟨w1.heap.size, 1, none⟩ = some (.int .i64 0) ∧ W'.cell? ⟨w1.heap.size, 2, none⟩ = some (.int .i64 m)) (first | (go_keep; done) | exact (Kp.four KZ.out) | exact (Kp.four (Kp.drew KZ.out)) | exact (Kp.four (by assumption)) | exact (Kp.four (Kp.drew (by assumption))))
        (first | (go_at_call 25; refine (right_kp HKP.out (by first | assumption | exact KZ.out | exact Kp.drew KZ.out | exact Kp.drew (by assumption))).mono ?_; rintro v w5 ⟨rfl, n9⟩) | (go_at_call 13; refine (awake_kp (by first | assumption | exact KZ.out | exact Kp.drew KZ.out | exact Kp.drew (by assumption))).mono ?_; rintro v w6 ⟨rfl, n9⟩))
      go_wp2
      go_ret
      exact ⟨rfl, Kp.below (by first | assumption | exact Kp.drew (by assumption))⟩
end Go.Proofs.Ytpgdogcgdlijeaa
