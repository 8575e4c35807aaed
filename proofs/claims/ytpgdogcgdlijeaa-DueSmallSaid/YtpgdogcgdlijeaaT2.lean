/- 'tells', walked: a phase that does not fit. Conditions: none beyond each theorem's own premises. -/
import Derived.Test.YtpgdogcgdlijeaaT1
import Derived.Test.YtpgdogcgdlijeaaR5
import Derived.Deep.CutRange
import Derived.Outline
namespace Go.Proofs.Ytpgdogcgdlijeaa
open Go.RowKit

set_option maxRecDepth 100000 in
set_option maxHeartbeats 40000000 in
theorem tells_unfit (e o m st n a b x1 x2 y1 y2 : Int) (r q f : Bool) (w : World) (hR1 : ∀ w, Calls Try.prog 25 #[.agg #[.int .i64 e, .int .i64 o, .int .i64 m]] w fun x w' => x = .returned (.bool r) ∧ Below w.heap.size w w') (hR2 : ∀ w, Calls Try.prog 15 #[.agg #[.int .i64 e, .int .i64 o, .int .i64 m]] w fun x w' => x = .returned (.bool r) ∧ Below w.heap.size w w') (hI1 : ∀ w, Calls Try.prog 21 #[.agg #[.int .i64 e, .int .i64 o, .int .i64 m], .int .i64 a] w fun x w' => x = .returned (.bool q) ∧ Below w.heap.size w w') (hI2 : ∀ w, Calls Try.prog 26 #[.agg #[.int .i64 e, .int .i64 o, .int .i64 m], .int .i64 a] w fun x w' => x = .returned (.bool q) ∧ Below w.heap.size w w') (hF1 : ∀ w, Calls Try.prog 18 #[.agg #[.int .i64 e, .int .i64 o, .int .i64 m], .agg #[.int .u8 st, .int .i64 n], .int .i64 a] w fun x w' => x = .returned (.bool f) ∧ Below w.heap.size w w') (hF2 : ∀ w, Calls Try.prog 27 #[.agg #[.int .i64 e, .int .i64 o, .int .i64 m], .agg #[.int .u8 st, .int .i64 n], .int .i64 a] w fun x w' => x = .returned (.bool f) ∧ Below w.heap.size w w') (hN1 : ∀ w, Calls Try.prog 22 #[.agg #[.int .i64 e, .int .i64 o, .int .i64 m], .int .i64 a] w fun x w' => x = .returned (.tuple #[.int .i64 x1, .int .i64 x2]) ∧ Below w.heap.size w w') (hN2 : ∀ w, Calls Try.prog 28 #[.agg #[.int .i64 e, .int .i64 o, .int .i64 m], .int .i64 a] w fun x w' => x = .returned (.tuple #[.int .i64 x1, .int .i64 x2]) ∧ Below w.heap.size w w') (hL1 : ∀ w, Calls Try.prog 23 #[.agg #[.int .i64 e, .int .i64 o, .int .i64 m], .int .i64 a] w fun x w' => x = .returned (.tuple #[.int .i64 y1, .int .i64 y2]) ∧ Below w.heap.size w w') (hL2 : ∀ w, Calls Try.prog 29 #[.agg #[.int .i64 e, .int .i64 o, .int .i64 m], .int .i64 a] w fun x w' => x = .returned (.tuple #[.int .i64 y1, .int .i64 y2]) ∧ Below w.heap.size w w') (hff : f = false) (hr : r = true) (hk : Du.Ok e o m) (a0 : 0 ≤ a) (hab : a ≤ b) (b1 : b ≤ 281474976710656) (hC : ∀ w, Calls Try.prog 20 #[.agg #[.int .i64 e, .int .i64 o, .int .i64 m], .int .i64 a, .int .i64 b] w fun x w' => x = .returned (.tuple #[.int .i64 (Du.upTo e o b - Du.upTo e o a), .int .i64 0]) ∧ Below w.heap.size w w') (hA : ∀ w, Calls Try.prog 19 #[.agg #[.int .i64 e, .int .i64 o, .int .i64 m], .agg #[.int .u8 st, .int .i64 n], .int .i64 a, .int .i64 b] w fun x w' => x = .returned (.tuple #[.agg #[.int .u8 0, .int .i64 0], .agg #[.int .i64 0, .int .i64 0, .int .i64 0], .int .i64 2]) ∧ Below w.heap.size w w') (hW : ∀ w, Calls Try.prog 24 #[.agg #[.int .i64 e, .int .i64 o, .int .i64 m], .agg #[.int .u8 st, .int .i64 n], .int .i64 a] w fun x w' => x = .returned (.tuple #[.int .i64 0, .int .i64 2]) ∧ Below w.heap.size w w') :
    Calls Try.prog 12 #[.agg #[.int .i64 e, .int .i64 o, .int .i64 m], .agg #[.int .u8 st, .int .i64 n], .int .i64 a, .int .i64 b] w fun v w' => v = .returned (.bool true) ∧ Below w.heap.size w w' := by
  subst hr
  have a1 : a ≤ 281474976710656 := by omega
  have t1 : Du.tick a = true := tick_ok a0 a1
  have t2 : Du.tick b = true := tick_ok (by omega) b1
  have t3 : decide (b < a) = false := decide_eq_false (by omega)
  have gw : IntKind.i64.wrap (b - a) = b - a := IntWalk.i64_in _ (by omega)
  have gv : IntKind.i64.wrap (a + 3000) = a + 3000 := IntWalk.i64_in _ (by omega)
  obtain ⟨cn, hcn⟩ : ∃ cn, Du.upTo e o b - Du.upTo e o a = cn := ⟨_, rfl⟩
  rw [hcn] at hC
  have HCT := Lib.hid fun w => hcn ▸ rcount_ok e o m a b w hk a0 hab b1
  have HC := Lib.hid hC
  clear hC hcn
  subst hff
  have HAD := Lib.hid hA
  have HW := Lib.hid hW
  clear hA hW
  have HR1 := Lib.hid hR1
  have HR2 := Lib.hid hR2
  have HI1 := Lib.hid hI1
  have HI2 := Lib.hid hI2
  have HF1 := Lib.hid hF1
  have HF2 := Lib.hid hF2
  have HN1 := Lib.hid hN1
  have HN2 := Lib.hid hN2
  have HL1 := Lib.hid hL1
  have HL2 := Lib.hid hL2
  clear hR1 hR2 hI1 hI2 hF1 hF2 hN1 hN2 hL1 hL2
  have K0 := Lib.hid (((Kp.start w).add 23 #[.int .i64 e, .int .i64 o, .int .i64 m]).add 25 #[.int .u8 st, .int .i64 n])
  go_enter Try.func12, Try.ntmps12
  go_upto_region 1 with fail
  go_cut [9, 10] from 27 to 28 (fun s9 s10 wx => ∃ g9 g10 : Nat, s9 = .pointer (some ⟨g9, 0, none⟩) ∧ s10 = .pointer (some ⟨g10, 0, none⟩) ∧ Kp w [(g10, 56, #[.int .u8 st, .int .i64 n]), (g9, 33, #[.int .i64 e, .int .i64 o, .int .i64 m]), (w.heap.size + 1, 25, #[.int .u8 st, .int .i64 n]), (w.heap.size, 23, #[.int .i64 e, .int .i64 o, .int .i64 m])] wx)
  case first =>
    have HA : Hid (Kp w [(w.heap.size + 1 + 1 + 1, 56, #[.int .u8 st, .int .i64 n]), (w.heap.size + 1 + 1, 33, #[.int .i64 e, .int .i64 o, .int .i64 m]), (w.heap.size + 1, 25, #[.int .u8 st, .int .i64 n]), (w.heap.size, 23, #[.int .i64 e, .int .i64 o, .int .i64 m])] (((((w.alloc (.cells #[.int .i64 e, .int .i64 o, .int .i64 m] 23)).alloc (.cells #[.int .u8 st, .int .i64 n] 25)).alloc (.cells #[.int .i64 e, .int .i64 o, .int .i64 m] 33)).alloc (.cells #[.int .u8 st, .int .i64 n] 56)).drew)) := Lib.hid (by
      have h := ((((Kp.start w).add 23 #[.int .i64 e, .int .i64 o, .int .i64 m]).add 25 #[.int .u8 st, .int .i64 n]).add 33 #[.int .i64 e, .int .i64 o, .int .i64 m]).add 56 #[.int .u8 st, .int .i64 n]
      simp only [size_of] at h
      exact Kp.drew h)
    have HB : Hid (Kp w [(w.heap.size + 1 + 1, 56, #[.int .u8 st, .int .i64 n]), (w.heap.size + 1 + 1 + 1, 33, #[.int .i64 e, .int .i64 o, .int .i64 m]), (w.heap.size + 1, 25, #[.int .u8 st, .int .i64 n]), (w.heap.size, 23, #[.int .i64 e, .int .i64 o, .int .i64 m])] (((((w.alloc (.cells #[.int .i64 e, .int .i64 o, .int .i64 m] 23)).alloc (.cells #[.int .u8 st, .int .i64 n] 25)).alloc (.cells #[.int .u8 st, .int .i64 n] 56)).alloc (.cells #[.int .i64 e, .int .i64 o, .int .i64 m] 33)).drew)) := Lib.hid (by
      have h := ((((Kp.start w).add 23 #[.int .i64 e, .int .i64 o, .int .i64 m]).add 25 #[.int .u8 st, .int .i64 n]).add 56 #[.int .u8 st, .int .i64 n]).add 33 #[.int .i64 e, .int .i64 o, .int .i64 m]
      simp only [size_of] at h
      exact Kp.swap (Kp.drew h))
    go_region
    · go_wp2_with fail
      go_meet
      exact ⟨_, _, rfl, rfl, HA.out⟩
    · go_wp2_with fail
      go_meet
      exact ⟨_, _, rfl, rfl, HB.out⟩
  case rest =>
    obtain ⟨g9, g10, rfl, rfl, n1⟩ := hcut
    go_wp2_with fail
    go_region_held3 (fun W => W.cell? ⟨w.heap.size, 0, none⟩ = some (.int .i64 e) ∧ W.cell? ⟨w.heap.size, 1, none⟩ = some (.int .i64 o) ∧ W.cell? ⟨w.heap.size, 2, none⟩ = some (.int .i64 m) ∧ W.cell? ⟨w.heap.size + 1, 0, none⟩ = some (.int .u8 st) ∧ W.cell? ⟨w.heap.size + 1, 1, none⟩ = some (.int .i64 n) ∧ W.cell? ⟨g9, 0, none⟩ = some (.int .i64 e) ∧ W.cell? ⟨g9, 1, none⟩ = some (.int .i64 o) ∧ W.cell? ⟨g9, 2, none⟩ = some (.int .i64 m) ∧ W.cell? ⟨g10, 0, none⟩ = some (.int .u8 st) ∧ W.cell? ⟨g10, 1, none⟩ = some (.int .i64 n)) (first | (go_keep; done) | exact Kp.four (Kp.drew (by assumption)) | exact Kp.four (by assumption))
      (first
        | (go_at_call 25; refine (Kp.call HR1.out (by first | assumption | exact Kp.drew (by assumption))).mono ?_; rintro x w9 ⟨rfl, n9⟩)
        | (go_at_call 15; refine (Kp.call HR2.out (by first | assumption | exact Kp.drew (by assumption))).mono ?_; rintro x w9 ⟨rfl, n9⟩)
        | (go_at_call 21; refine (Kp.call HI1.out (by first | assumption | exact Kp.drew (by assumption))).mono ?_; rintro x w9 ⟨rfl, n9⟩)
        | (go_at_call 26; refine (Kp.call HI2.out (by first | assumption | exact Kp.drew (by assumption))).mono ?_; rintro x w9 ⟨rfl, n9⟩)
        | (go_at_call 18; refine (Kp.call HF1.out (by first | assumption | exact Kp.drew (by assumption))).mono ?_; rintro x w9 ⟨rfl, n9⟩)
        | (go_at_call 27; refine (Kp.call HF2.out (by first | assumption | exact Kp.drew (by assumption))).mono ?_; rintro x w9 ⟨rfl, n9⟩))
    obtain ⟨wy, hwy⟩ : ∃ wy, wy = w9 := ⟨_, rfl⟩
    have hky : Kp w [(g10, 56, #[.int .u8 st, .int .i64 n]), (g9, 33, #[.int .i64 e, .int .i64 o, .int .i64 m]), (w.heap.size + 1, 25, #[.int .u8 st, .int .i64 n]), (w.heap.size, 23, #[.int .i64 e, .int .i64 o, .int .i64 m])] wy := hwy ▸ n9
    rw [← hwy]
    have K1 := Lib.hid hky
    clear n1 hky hwy
    have c_p : ∀ i : Nat, wy.cell? ⟨w.heap.size, i, none⟩ = #[.int .i64 e, .int .i64 o, .int .i64 m][i]? := K1.out.cell (.tail _ (.tail _ (.tail _ (.head _))))
    have c_s : ∀ i : Nat, wy.cell? ⟨w.heap.size + 1, i, none⟩ = #[.int .u8 st, .int .i64 n][i]? := K1.out.cell (.tail _ (.tail _ (.head _)))
    have c_q : ∀ i : Nat, wy.cell? ⟨g9, i, none⟩ = #[.int .i64 e, .int .i64 o, .int .i64 m][i]? := K1.out.cell (.tail _ (.head _))
    have c_u : ∀ i : Nat, wy.cell? ⟨g10, i, none⟩ = #[.int .u8 st, .int .i64 n][i]? := K1.out.cell (.head _)
    go_wp2_with fail
    refine (HN1.out _).mono ?_
    rintro x w2 ⟨rfl, hb⟩
    have K2 := Lib.hid (K1.out.on hb)
    clear hb
    clear c_p c_s c_q c_u
    have c_p : ∀ i : Nat, w2.cell? ⟨w.heap.size, i, none⟩ = #[.int .i64 e, .int .i64 o, .int .i64 m][i]? := K2.out.cell (.tail _ (.tail _ (.tail _ (.head _))))
    have c_s : ∀ i : Nat, w2.cell? ⟨w.heap.size + 1, i, none⟩ = #[.int .u8 st, .int .i64 n][i]? := K2.out.cell (.tail _ (.tail _ (.head _)))
    have c_q : ∀ i : Nat, w2.cell? ⟨g9, i, none⟩ = #[.int .i64 e, .int .i64 o, .int .i64 m][i]? := K2.out.cell (.tail _ (.head _))
    have c_u : ∀ i : Nat, w2.cell? ⟨g10, i, none⟩ = #[.int .u8 st, .int .i64 n][i]? := K2.out.cell (.head _)
    go_wp2_with fail
    refine (HN2.out _).mono ?_
    rintro x w3 ⟨rfl, hb⟩
    have K3 := Lib.hid (K2.out.on hb)
    clear hb
    clear c_p c_s c_q c_u
    have c_p : ∀ i : Nat, w3.cell? ⟨w.heap.size, i, none⟩ = #[.int .i64 e, .int .i64 o, .int .i64 m][i]? := K3.out.cell (.tail _ (.tail _ (.tail _ (.head _))))
    have c_s : ∀ i : Nat, w3.cell? ⟨w.heap.size + 1, i, none⟩ = #[.int .u8 st, .int .i64 n][i]? := K3.out.cell (.tail _ (.tail _ (.head _)))
    have c_q : ∀ i : Nat, w3.cell? ⟨g9, i, none⟩ = #[.int .i64 e, .int .i64 o, .int .i64 m][i]? := K3.out.cell (.tail _ (.head _))
    have c_u : ∀ i : Nat, w3.cell? ⟨g10, i, none⟩ = #[.int .u8 st, .int .i64 n][i]? := K3.out.cell (.head _)
    go_wp2_with fail
    refine (HL1.out _).mono ?_
    rintro x w4 ⟨rfl, hb⟩
    have K4 := Lib.hid (K3.out.on hb)
    clear hb
    clear c_p c_s c_q c_u
    have c_p : ∀ i : Nat, w4.cell? ⟨w.heap.size, i, none⟩ = #[.int .i64 e, .int .i64 o, .int .i64 m][i]? := K4.out.cell (.tail _ (.tail _ (.tail _ (.head _))))
    have c_s : ∀ i : Nat, w4.cell? ⟨w.heap.size + 1, i, none⟩ = #[.int .u8 st, .int .i64 n][i]? := K4.out.cell (.tail _ (.tail _ (.head _)))
    have c_q : ∀ i : Nat, w4.cell? ⟨g9, i, none⟩ = #[.int .i64 e, .int .i64 o, .int .i64 m][i]? := K4.out.cell (.tail _ (.head _))
    have c_u : ∀ i : Nat, w4.cell? ⟨g10, i, none⟩ = #[.int .u8 st, .int .i64 n][i]? := K4.out.cell (.head _)
    go_wp2_with fail
    refine (HL2.out _).mono ?_
    rintro x w5 ⟨rfl, hb⟩
    have K5 := Lib.hid (K4.out.on hb)
    clear hb
    clear c_p c_s c_q c_u
    have c_p : ∀ i : Nat, w5.cell? ⟨w.heap.size, i, none⟩ = #[.int .i64 e, .int .i64 o, .int .i64 m][i]? := K5.out.cell (.tail _ (.tail _ (.tail _ (.head _))))
    have c_s : ∀ i : Nat, w5.cell? ⟨w.heap.size + 1, i, none⟩ = #[.int .u8 st, .int .i64 n][i]? := K5.out.cell (.tail _ (.tail _ (.head _)))
    have c_q : ∀ i : Nat, w5.cell? ⟨g9, i, none⟩ = #[.int .i64 e, .int .i64 o, .int .i64 m][i]? := K5.out.cell (.tail _ (.head _))
    have c_u : ∀ i : Nat, w5.cell? ⟨g10, i, none⟩ = #[.int .u8 st, .int .i64 n][i]? := K5.out.cell (.head _)
    go_wp2_with fail
    refine (HC.out _).mono ?_
    rintro x w6 ⟨rfl, hb⟩
    have K6 := Lib.hid (K5.out.on hb)
    clear hb
    clear c_p c_s c_q c_u
    have c_p : ∀ i : Nat, w6.cell? ⟨w.heap.size, i, none⟩ = #[.int .i64 e, .int .i64 o, .int .i64 m][i]? := K6.out.cell (.tail _ (.tail _ (.tail _ (.head _))))
    have c_s : ∀ i : Nat, w6.cell? ⟨w.heap.size + 1, i, none⟩ = #[.int .u8 st, .int .i64 n][i]? := K6.out.cell (.tail _ (.tail _ (.head _)))
    have c_q : ∀ i : Nat, w6.cell? ⟨g9, i, none⟩ = #[.int .i64 e, .int .i64 o, .int .i64 m][i]? := K6.out.cell (.tail _ (.head _))
    have c_u : ∀ i : Nat, w6.cell? ⟨g10, i, none⟩ = #[.int .u8 st, .int .i64 n][i]? := K6.out.cell (.head _)
    go_wp2_with fail
    refine (HAD.out _).mono ?_
    rintro x w7 ⟨rfl, hb⟩
    have K7 := Lib.hid (K6.out.on hb)
    clear hb
    clear c_p c_s c_q c_u
    have c_p : ∀ i : Nat, w7.cell? ⟨w.heap.size, i, none⟩ = #[.int .i64 e, .int .i64 o, .int .i64 m][i]? := K7.out.cell (.tail _ (.tail _ (.tail _ (.head _))))
    have c_s : ∀ i : Nat, w7.cell? ⟨w.heap.size + 1, i, none⟩ = #[.int .u8 st, .int .i64 n][i]? := K7.out.cell (.tail _ (.tail _ (.head _)))
    have c_q : ∀ i : Nat, w7.cell? ⟨g9, i, none⟩ = #[.int .i64 e, .int .i64 o, .int .i64 m][i]? := K7.out.cell (.tail _ (.head _))
    have c_u : ∀ i : Nat, w7.cell? ⟨g10, i, none⟩ = #[.int .u8 st, .int .i64 n][i]? := K7.out.cell (.head _)
    have K8 := Lib.hid ((K7.out.add 25 #[.int .u8 0, .int .i64 0]).add 41 #[.int .i64 0, .int .i64 0, .int .i64 0])
    have l_p : w.heap.size < w7.heap.size := K7.out.lt (.tail _ (.tail _ (.tail _ (.head _))))
    have m_p : w.heap.size < w7.heap.size + 1 := by omega
    have l_s : w.heap.size + 1 < w7.heap.size := K7.out.lt (.tail _ (.tail _ (.head _)))
    have m_s : w.heap.size + 1 < w7.heap.size + 1 := by omega
    have l_q : g9 < w7.heap.size := K7.out.lt (.tail _ (.head _))
    have m_q : g9 < w7.heap.size + 1 := by omega
    have l_u : g10 < w7.heap.size := K7.out.lt (.head _)
    have m_u : g10 < w7.heap.size + 1 := by omega
    go_wp2_with fail
    refine (HR2.out _).mono ?_
    rintro x w9 ⟨rfl, hb⟩
    have K9 := Lib.hid (K8.out.on hb)
    clear hb
    clear c_p c_s c_q c_u
    clear l_p m_p l_s m_s l_q m_q l_u m_u
    have c_p : ∀ i : Nat, w9.cell? ⟨w.heap.size, i, none⟩ = #[.int .i64 e, .int .i64 o, .int .i64 m][i]? := K9.out.cell (.tail _ (.tail _ (.tail _ (.tail _ (.tail _ (.head _))))))
    have c_s : ∀ i : Nat, w9.cell? ⟨w.heap.size + 1, i, none⟩ = #[.int .u8 st, .int .i64 n][i]? := K9.out.cell (.tail _ (.tail _ (.tail _ (.tail _ (.head _)))))
    have c_q : ∀ i : Nat, w9.cell? ⟨g9, i, none⟩ = #[.int .i64 e, .int .i64 o, .int .i64 m][i]? := K9.out.cell (.tail _ (.tail _ (.tail _ (.head _))))
    have c_u : ∀ i : Nat, w9.cell? ⟨g10, i, none⟩ = #[.int .u8 st, .int .i64 n][i]? := K9.out.cell (.tail _ (.tail _ (.head _)))
    have c_x : ∀ i : Nat, w9.cell? ⟨w7.heap.size, i, none⟩ = #[.int .u8 0, .int .i64 0][i]? := K9.out.cell (.tail _ (.head _))
    have c_y : ∀ i : Nat, w9.cell? ⟨w7.heap.size + 1, i, none⟩ = #[.int .i64 0, .int .i64 0, .int .i64 0][i]? := by have h := K9.out.cell (.head _); dsimp only at h; rw [size_of] at h; exact h
    go_wp2_with fail
    refine (rtick_any a _).mono ?_
    rintro x wz ⟨rfl, rfl⟩
    rw [t1]
    go_wp2_with fail
    refine (rtick_any b _).mono ?_
    rintro x wz ⟨rfl, rfl⟩
    rw [t2]
    rcases hd : decide (b - a ≤ 3000) with _ | _
    · skip
      go_wp2_with fail
      refine (HW.out _).mono ?_
      rintro x w10 ⟨rfl, hb⟩
      have K10 := Lib.hid (K9.out.on hb)
      clear hb
      clear c_p c_s c_q c_u c_x c_y
      have c_p : ∀ i : Nat, w10.cell? ⟨w.heap.size, i, none⟩ = #[.int .i64 e, .int .i64 o, .int .i64 m][i]? := K10.out.cell (.tail _ (.tail _ (.tail _ (.tail _ (.tail _ (.head _))))))
      have c_s : ∀ i : Nat, w10.cell? ⟨w.heap.size + 1, i, none⟩ = #[.int .u8 st, .int .i64 n][i]? := K10.out.cell (.tail _ (.tail _ (.tail _ (.tail _ (.head _)))))
      have c_q : ∀ i : Nat, w10.cell? ⟨g9, i, none⟩ = #[.int .i64 e, .int .i64 o, .int .i64 m][i]? := K10.out.cell (.tail _ (.tail _ (.tail _ (.head _))))
      have c_u : ∀ i : Nat, w10.cell? ⟨g10, i, none⟩ = #[.int .u8 st, .int .i64 n][i]? := K10.out.cell (.tail _ (.tail _ (.head _)))
      have c_x : ∀ i : Nat, w10.cell? ⟨w7.heap.size, i, none⟩ = #[.int .u8 0, .int .i64 0][i]? := K10.out.cell (.tail _ (.head _))
      have c_y : ∀ i : Nat, w10.cell? ⟨w7.heap.size + 1, i, none⟩ = #[.int .i64 0, .int .i64 0, .int .i64 0][i]? := by have h := K10.out.cell (.head _); dsimp only at h; rw [size_of] at h; exact h
      go_wp2_with fail
      refine (HF2.out _).mono ?_
      rintro x w11 ⟨rfl, hb⟩
      have K11 := Lib.hid (K10.out.on hb)
      clear hb
      clear c_p c_s c_q c_u c_x c_y
      have c_p : ∀ i : Nat, w11.cell? ⟨w.heap.size, i, none⟩ = #[.int .i64 e, .int .i64 o, .int .i64 m][i]? := K11.out.cell (.tail _ (.tail _ (.tail _ (.tail _ (.tail _ (.head _))))))
      have c_s : ∀ i : Nat, w11.cell? ⟨w.heap.size + 1, i, none⟩ = #[.int .u8 st, .int .i64 n][i]? := K11.out.cell (.tail _ (.tail _ (.tail _ (.tail _ (.head _)))))
      have c_q : ∀ i : Nat, w11.cell? ⟨g9, i, none⟩ = #[.int .i64 e, .int .i64 o, .int .i64 m][i]? := K11.out.cell (.tail _ (.tail _ (.tail _ (.head _))))
      have c_u : ∀ i : Nat, w11.cell? ⟨g10, i, none⟩ = #[.int .u8 st, .int .i64 n][i]? := K11.out.cell (.tail _ (.tail _ (.head _)))
      have c_x : ∀ i : Nat, w11.cell? ⟨w7.heap.size, i, none⟩ = #[.int .u8 0, .int .i64 0][i]? := K11.out.cell (.tail _ (.head _))
      have c_y : ∀ i : Nat, w11.cell? ⟨w7.heap.size + 1, i, none⟩ = #[.int .i64 0, .int .i64 0, .int .i64 0][i]? := by have h := K11.out.cell (.head _); dsimp only at h; rw [size_of] at h; exact h
      go_wp2
      go_ret
      exact ⟨rfl, K11.out.below⟩
    · skip
      go_wp2_with fail
      refine (HCT.out _).mono ?_
      rintro x w10 ⟨rfl, hb⟩
      have K10 := Lib.hid (K9.out.on hb)
      clear hb
      clear c_p c_s c_q c_u c_x c_y
      have c_p : ∀ i : Nat, w10.cell? ⟨w.heap.size, i, none⟩ = #[.int .i64 e, .int .i64 o, .int .i64 m][i]? := K10.out.cell (.tail _ (.tail _ (.tail _ (.tail _ (.tail _ (.head _))))))
      have c_s : ∀ i : Nat, w10.cell? ⟨w.heap.size + 1, i, none⟩ = #[.int .u8 st, .int .i64 n][i]? := K10.out.cell (.tail _ (.tail _ (.tail _ (.tail _ (.head _)))))
      have c_q : ∀ i : Nat, w10.cell? ⟨g9, i, none⟩ = #[.int .i64 e, .int .i64 o, .int .i64 m][i]? := K10.out.cell (.tail _ (.tail _ (.tail _ (.head _))))
      have c_u : ∀ i : Nat, w10.cell? ⟨g10, i, none⟩ = #[.int .u8 st, .int .i64 n][i]? := K10.out.cell (.tail _ (.tail _ (.head _)))
      have c_x : ∀ i : Nat, w10.cell? ⟨w7.heap.size, i, none⟩ = #[.int .u8 0, .int .i64 0][i]? := K10.out.cell (.tail _ (.head _))
      have c_y : ∀ i : Nat, w10.cell? ⟨w7.heap.size + 1, i, none⟩ = #[.int .i64 0, .int .i64 0, .int .i64 0][i]? := by have h := K10.out.cell (.head _); dsimp only at h; rw [size_of] at h; exact h
      go_wp2_with fail
      refine (HW.out _).mono ?_
      rintro x w11 ⟨rfl, hb⟩
      have K11 := Lib.hid (K10.out.on hb)
      clear hb
      clear c_p c_s c_q c_u c_x c_y
      have c_p : ∀ i : Nat, w11.cell? ⟨w.heap.size, i, none⟩ = #[.int .i64 e, .int .i64 o, .int .i64 m][i]? := K11.out.cell (.tail _ (.tail _ (.tail _ (.tail _ (.tail _ (.head _))))))
      have c_s : ∀ i : Nat, w11.cell? ⟨w.heap.size + 1, i, none⟩ = #[.int .u8 st, .int .i64 n][i]? := K11.out.cell (.tail _ (.tail _ (.tail _ (.tail _ (.head _)))))
      have c_q : ∀ i : Nat, w11.cell? ⟨g9, i, none⟩ = #[.int .i64 e, .int .i64 o, .int .i64 m][i]? := K11.out.cell (.tail _ (.tail _ (.tail _ (.head _))))
      have c_u : ∀ i : Nat, w11.cell? ⟨g10, i, none⟩ = #[.int .u8 st, .int .i64 n][i]? := K11.out.cell (.tail _ (.tail _ (.head _)))
      have c_x : ∀ i : Nat, w11.cell? ⟨w7.heap.size, i, none⟩ = #[.int .u8 0, .int .i64 0][i]? := K11.out.cell (.tail _ (.head _))
      have c_y : ∀ i : Nat, w11.cell? ⟨w7.heap.size + 1, i, none⟩ = #[.int .i64 0, .int .i64 0, .int .i64 0][i]? := by have h := K11.out.cell (.head _); dsimp only at h; rw [size_of] at h; exact h
      go_wp2_with fail
      refine (HF2.out _).mono ?_
      rintro x w12 ⟨rfl, hb⟩
      have K12 := Lib.hid (K11.out.on hb)
      clear hb
      clear c_p c_s c_q c_u c_x c_y
      have c_p : ∀ i : Nat, w12.cell? ⟨w.heap.size, i, none⟩ = #[.int .i64 e, .int .i64 o, .int .i64 m][i]? := K12.out.cell (.tail _ (.tail _ (.tail _ (.tail _ (.tail _ (.head _))))))
      have c_s : ∀ i : Nat, w12.cell? ⟨w.heap.size + 1, i, none⟩ = #[.int .u8 st, .int .i64 n][i]? := K12.out.cell (.tail _ (.tail _ (.tail _ (.tail _ (.head _)))))
      have c_q : ∀ i : Nat, w12.cell? ⟨g9, i, none⟩ = #[.int .i64 e, .int .i64 o, .int .i64 m][i]? := K12.out.cell (.tail _ (.tail _ (.tail _ (.head _))))
      have c_u : ∀ i : Nat, w12.cell? ⟨g10, i, none⟩ = #[.int .u8 st, .int .i64 n][i]? := K12.out.cell (.tail _ (.tail _ (.head _)))
      have c_x : ∀ i : Nat, w12.cell? ⟨w7.heap.size, i, none⟩ = #[.int .u8 0, .int .i64 0][i]? := K12.out.cell (.tail _ (.head _))
      have c_y : ∀ i : Nat, w12.cell? ⟨w7.heap.size + 1, i, none⟩ = #[.int .i64 0, .int .i64 0, .int .i64 0][i]? := by have h := K12.out.cell (.head _); dsimp only at h; rw [size_of] at h; exact h
      go_wp2
      go_ret
      exact ⟨rfl, K12.out.below⟩
end Go.Proofs.Ytpgdogcgdlijeaa
