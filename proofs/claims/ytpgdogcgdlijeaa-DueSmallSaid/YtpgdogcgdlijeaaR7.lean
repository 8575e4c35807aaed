/- The reference's Wake, walked. Conditions: a right plan, a tick, a phase that fits. -/
import Derived.Test.YtpgdogcgdlijeaaR3
import Derived.Test.YtpgdogcgdlijeaaRPlain3
import Derived.LoopTactic
namespace Go.Proofs.Ytpgdogcgdlijeaa
open Go.RowKit

set_option maxRecDepth 100000 in
set_option maxHeartbeats 8000000 in
theorem rwake_ok (e o m st n t most : Int) (w : World) (hk : Du.Ok e o m) (t0 : 0 ≤ t) (t1 : t ≤ 281474976710656) (hf : Du.fitsP e o m st n t) (m0 : 0 ≤ most) (m1 : most ≤ 1000000) :
    Calls Try.prog 33 #[.agg #[.int .i64 e, .int .i64 o, .int .i64 m], .agg #[.int .u8 st, .int .i64 n], .int .i64 t, .int .i64 most] w fun v w' => ∃ q : Int,
      v = .returned (.int .i64 q) ∧ Du.Rw e o m st n t most q ∧ Below w.heap.size w w' := by
  have K0 := Lib.hid (((Kp.start w).add 33 #[.int .i64 e, .int .i64 o, .int .i64 m]).add 56 #[.int .u8 st, .int .i64 n])
  have hn : 0 ≤ n ∧ n ≤ 281474976710656 := by
    rcases hf with h | ⟨-, h2, h3, -⟩ <;> omega
  obtain ⟨n0, n1⟩ := hn
  have hgt := Du.wk_gt hk hf
  have HH : Hid (∀ {x s' n' b f k : Int}, t < x → x ≤ Du.wk e o m st n t → Du.Pass e o m st n (-1) (-1) 0 x s' n' b f k → (x < Du.wk e o m st n t → s' = st ∧ n' = n ∧ k = 0) ∧ (x = Du.wk e o m st n t → (s' ≠ st ∨ n' ≠ n) ∨ 0 < k)) := Lib.hid fun h1 h2 hp => Du.happens hk t0 hf h1 h2 hp
  have HK : Hid (∀ q, (q = Du.wk e o m st n t ∧ Du.wk e o m st n t ≤ t + most ∧ Du.wk e o m st n t ≤ 281474976710656) ∨ (q = -1 ∧ (t + most < Du.wk e o m st n t ∨ 281474976710656 < Du.wk e o m st n t)) → Du.Rw e o m st n t most q) := Lib.hid fun q h => ⟨h⟩
  clear hf
  generalize Du.wk e o m st n t = K at *
  go_enter Try.func33, Try.ntmps33
  go_wp2
  go_loopw [9] (fun i wr => ∃ x : Int, t < x ∧ x ≤ K ∧ x ≤ t + most + 1 ∧ x ≤ 281474976710657 ∧ i = .int .i64 x ∧ Kp w [(w.heap.size + 1, 56, #[.int .u8 st, .int .i64 n]), (w.heap.size, 33, #[.int .i64 e, .int .i64 o, .int .i64 m])] wr) (fun i _ => (t + most + 1 - intOf i).toNat)
  case atStart => exact ⟨t + 1, by omega, by omega, by omega, by omega, rfl, by have := K0.out; rw [size_of] at this; exact this⟩
  case round =>
    obtain ⟨x, x0, x1, x2, x3, rfl, hkp⟩ := hrel
    have KR := Lib.hid hkp
    have cp : ∀ i : Nat, wr.cell? ⟨w.heap.size, i, none⟩ = #[.int .i64 e, .int .i64 o, .int .i64 m][i]? := hkp.cell (.tail _ (.head _))
    have cs : ∀ i : Nat, wr.cell? ⟨w.heap.size + 1, i, none⟩ = #[.int .u8 st, .int .i64 n][i]? := hkp.cell (.head _)
    clear hkp
    have g1 : IntKind.i64.wrap (t + most) = t + most := IntWalk.i64_in _ (by omega)
    have g2 : IntKind.i64.wrap (x + 1) = x + 1 := IntWalk.i64_in _ (by omega)
    rcases (show (x ≤ t + most ∧ x ≤ 281474976710656) ∨ t + most < x ∨ (x ≤ t + most ∧ 281474976710656 < x) by omega) with ⟨h1, h2⟩ | h1 | ⟨h1, h2⟩
    · have d1 : decide (x ≤ t + most) = true := decide_eq_true h1
      have d2 : decide (x ≤ 281474976710656) = true := decide_eq_true h2
      go_wp2_with fail
      refine (pass_any e o m st n (-1) (-1) 0 x _ hk (by omega) h2 n0 n1 (by omega) (by omega)).mono ?_
      rintro v w2 ⟨s', n', b', f', k', rfl, hps, hb⟩
      obtain ⟨hA, hB⟩ := HH.out x0 x1 hps
      have K2 := Lib.hid (KR.out.on hb)
      have cs2 : ∀ i : Nat, w2.cell? ⟨w.heap.size + 1, i, none⟩ = #[.int .u8 st, .int .i64 n][i]? := K2.out.cell (.head _)
      have hz2 : w.heap.size + 1 < w2.heap.size := K2.out.lt (.head _)
      have hz3 : w.heap.size + 1 < w2.heap.size + 1 := by omega
      clear hb hps cp cs
      rcases (show x < K ∨ x = K by omega) with hx | hx
      · obtain ⟨rfl, rfl, rfl⟩ := hA hx
        clear hA hB
        go_wp2
        go_roundw
        case rel => exact ⟨x + 1, by omega, by omega, by omega, by omega, rfl, K2.out.on (((Below.refl _ _).alloc (Nat.le_refl _) _).alloc (by simp) _)⟩
        case measure => simp [intOf]; omega
      · have hend : Hid (Du.Rw e o m st n t most K) := Lib.hid (HK.out K (Or.inl ⟨rfl, by omega, by omega⟩))
        have hB2 := hB hx
        clear hA hB
        have hc : (s' == st) = false ∨ ((s' == st) = true ∧ (n' == n) = false) ∨ ((s' == st) = true ∧ (n' == n) = true ∧ decide (0 < k') = true) := by
          simp only [beq_eq_false_iff_ne, beq_iff_eq, decide_eq_true_eq]
          omega
        clear hB2
        rcases hc with c1 | ⟨c1, c2⟩ | ⟨c1, c2, c3⟩
        all_goals
          go_wp2
          go_ret
          exact ⟨_, rfl, hend.out, (K2.out.below.alloc K2.out.below.size _).alloc (by have := K2.out.below.size; simp; omega) _⟩
    · have d1 : decide (x ≤ t + most) = false := decide_eq_false (by omega)
      have hend : Hid (Du.Rw e o m st n t most (-1)) := Lib.hid (HK.out _ (Or.inr ⟨rfl, by omega⟩))
      go_wp2
      go_ret
      exact ⟨_, rfl, hend.out, KR.out.below⟩
    · have d1 : decide (x ≤ t + most) = true := decide_eq_true h1
      have d2 : decide (x ≤ 281474976710656) = false := decide_eq_false (by omega)
      have hend : Hid (Du.Rw e o m st n t most (-1)) := Lib.hid (HK.out _ (Or.inr ⟨rfl, by omega⟩))
      go_wp2
      go_ret
      exact ⟨_, rfl, hend.out, KR.out.below⟩
end Go.Proofs.Ytpgdogcgdlijeaa
