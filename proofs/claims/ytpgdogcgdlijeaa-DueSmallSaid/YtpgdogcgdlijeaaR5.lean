/- The reference's Count, walked. Conditions: a right plan, ticks in order. -/
import Derived.Test.YtpgdogcgdlijeaaR2
namespace Go.Proofs.Ytpgdogcgdlijeaa
open Go.RowKit

set_option maxRecDepth 100000 in
set_option maxHeartbeats 8000000 in
theorem rcount_ok (e o m a b : Int) (w : World) (hk : Du.Ok e o m) (a0 : 0 ≤ a) (hab : a ≤ b) (b1 : b ≤ 281474976710656) :
    Calls Try.prog 31 #[.agg #[.int .i64 e, .int .i64 o, .int .i64 m], .int .i64 a, .int .i64 b] w fun v w' => v = .returned (.int .i64 (Du.upTo e o b - Du.upTo e o a)) ∧ Below w.heap.size w w' := by
  have h1 := Lib.hid (Ron.start w e o m)
  have g0 : IntKind.i64.wrap (a + 1) = a + 1 := IntWalk.i64_in _ (by omega)
  have e1 := hk.e1
  go_enter Try.func31, Try.ntmps31
  go_wp2
  go_loopw [7, 8] (fun c i wr => ∃ x : Int, a ≤ x ∧ x ≤ b ∧ i = .int .i64 (x + 1) ∧ c = .int .i64 (Du.upTo e o x - Du.upTo e o a) ∧ Ron w e o m wr) (fun _ i _ => (b + 1 - intOf i).toNat)
  case atStart => exact ⟨a, Int.le_refl _, hab, rfl, by rw [Int.sub_self], h1.out⟩
  case round =>
    obtain ⟨x, x0, x1, rfl, rfl, hr⟩ := hrel
    have hs := Du.up_succ hk (show 0 ≤ x by omega)
    have hm := Du.up_le (o := o) hk.e1 x0
    have hb := Du.up_bounds hk.e1 hk.o0 (show x ≤ 281474976710656 by omega) (Du.upTo_spec (o := o) (t := x) hk.e1)
    have hu := (Du.upTo_spec (o := o) (t := a) hk.e1).u0
    rcases (show x + 1 ≤ b ∨ x = b by omega) with hx | hx
    · have d1 : decide (x + 1 ≤ b) = true := decide_eq_true hx
      have g1 : IntKind.i64.wrap (x + 1 + 1) = x + 1 + 1 := IntWalk.i64_in _ (by omega)
      have g2 : IntKind.i64.wrap (Du.upTo e o x - Du.upTo e o a + 1) = Du.upTo e o x - Du.upTo e o a + 1 := IntWalk.i64_in _ (by omega)
      obtain ⟨-, p0, p1, p2⟩ := Ron.all hr
      have HR := Lib.hid hr
      have HS := Lib.hid hs
      clear hr hs
      rcases hq : ((x + 1) % e == o) with _ | _
      · have HS2 : Hid (Du.upTo e o (x + 1) = Du.upTo e o x) := by
          show _ = _
          rw [HS.out, if_neg (by simpa using hq)]; omega
        go_wp2_with fail
        refine (ris_ok e o m (x + 1) _ false hk (by omega) (by omega) hq).mono ?_
        rintro v w2 ⟨rfl, hb2⟩
        have HR2 := Lib.hid (HR.out.on hb2)
        clear hb2 p0 p1 p2
        go_wp2
        go_roundw
        case rel => exact ⟨x + 1, by omega, by omega, rfl, by rw [HS2.out], HR2.out⟩
        case measure => simp [intOf]; omega
      · have HS2 : Hid (Du.upTo e o (x + 1) = Du.upTo e o x + 1) := by
          show _ = _
          rw [HS.out, if_pos (by simpa using hq)]
        go_wp2_with fail
        refine (ris_ok e o m (x + 1) _ true hk (by omega) (by omega) hq).mono ?_
        rintro v w2 ⟨rfl, hb2⟩
        have HR2 := Lib.hid (HR.out.on hb2)
        clear hb2 p0 p1 p2
        go_wp2
        go_roundw
        case rel => exact ⟨x + 1, by omega, by omega, rfl, by rw [HS2.out]; congr 1; omega, HR2.out⟩
        case measure => simp [intOf]; omega
    · subst hx
      have d1 : decide (x + 1 ≤ x) = false := decide_eq_false (by omega)
      have HR := Lib.hid hr
      clear hr hs
      go_wp2
      go_ret
      exact ⟨rfl, HR.out.below⟩
end Go.Proofs.Ytpgdogcgdlijeaa
