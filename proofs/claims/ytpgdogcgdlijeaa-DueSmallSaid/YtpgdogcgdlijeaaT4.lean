/- 'tells' of any plan, phase and ticks; and a plan and a phase that came in, opened. Conditions: the phase's state is a byte. -/
import Derived.Test.YtpgdogcgdlijeaaT2
import Derived.Test.YtpgdogcgdlijeaaT3
import Derived.Test.YtpgdogcgdlijeaaR8
import Derived.Test.YtpgdogcgdlijeaaD11
import Derived.Test.YtpgdogcgdlijeaaArg
import Derived.Test.YtpgdogcgdlijeaaAwake
import Derived.Lib.SmallJoins
namespace Go.Proofs.Ytpgdogcgdlijeaa
open Go.ChangeShapes Go.WideShapes Go.ChangeAt Go.RowKit Go.Deep

theorem next_all (e o m t : Int) (hk : Du.Ok e o m) (t0 : 0 ≤ t) (t1 : t ≤ 281474976710656) : ∃ x1 x2 : Int,
    (∀ w, Calls Try.prog 22 #[.agg #[.int .i64 e, .int .i64 o, .int .i64 m], .int .i64 t] w fun x w' => x = .returned (.tuple #[.int .i64 x1, .int .i64 x2]) ∧ Below w.heap.size w w') ∧
    (∀ w, Calls Try.prog 28 #[.agg #[.int .i64 e, .int .i64 o, .int .i64 m], .int .i64 t] w fun x w' => x = .returned (.tuple #[.int .i64 x1, .int .i64 x2]) ∧ Below w.heap.size w w') := by
  by_cases h : Du.next e o t ≤ 281474976710656
  · refine ⟨Du.next e o t, 0, fun w => (next_ok e o m t w hk t0 t1).mono fun x w' ⟨n, f, he, hc, hb⟩ => ?_, fun w => (rnext_ok e o m t w hk t0 t1).mono fun x w' ⟨n, f, he, hc, hb⟩ => ?_⟩
    all_goals
      rcases hc with ⟨_, rfl, rfl⟩ | ⟨h2, _⟩
      · exact ⟨he, hb⟩
      · omega
  · refine ⟨0, 4, fun w => (next_ok e o m t w hk t0 t1).mono fun x w' ⟨n, f, he, hc, hb⟩ => ?_, fun w => (rnext_ok e o m t w hk t0 t1).mono fun x w' ⟨n, f, he, hc, hb⟩ => ?_⟩
    all_goals
      rcases hc with ⟨h2, _⟩ | ⟨_, rfl, rfl⟩
      · omega
      · exact ⟨he, hb⟩
theorem last_all (e o m t : Int) (hk : Du.Ok e o m) (t0 : 0 ≤ t) (t1 : t ≤ 281474976710656) : ∃ x1 x2 : Int,
    (∀ w, Calls Try.prog 23 #[.agg #[.int .i64 e, .int .i64 o, .int .i64 m], .int .i64 t] w fun x w' => x = .returned (.tuple #[.int .i64 x1, .int .i64 x2]) ∧ Below w.heap.size w w') ∧
    (∀ w, Calls Try.prog 29 #[.agg #[.int .i64 e, .int .i64 o, .int .i64 m], .int .i64 t] w fun x w' => x = .returned (.tuple #[.int .i64 x1, .int .i64 x2]) ∧ Below w.heap.size w w') := by
  by_cases h : o ≤ t
  · refine ⟨Du.last e o t, 0, fun w => (last_ok e o m t w hk t0 t1).mono fun x w' ⟨n, f, he, hc, hb⟩ => ?_, fun w => (rlast_ok e o m t w hk t0 t1).mono fun x w' ⟨n, f, he, hc, hb⟩ => ?_⟩
    all_goals
      rcases hc with ⟨_, rfl, rfl⟩ | ⟨h2, _⟩
      · exact ⟨he, hb⟩
      · omega
  · refine ⟨0, 6, fun w => (last_ok e o m t w hk t0 t1).mono fun x w' ⟨n, f, he, hc, hb⟩ => ?_, fun w => (rlast_ok e o m t w hk t0 t1).mono fun x w' ⟨n, f, he, hc, hb⟩ => ?_⟩
    all_goals
      rcases hc with ⟨h2, _⟩ | ⟨_, rfl, rfl⟩
      · omega
      · exact ⟨he, hb⟩

theorem tells_any (e o m st n a b : Int) (w : World) (s0 : 0 ≤ st) :
    Calls Try.prog 12 #[.agg #[.int .i64 e, .int .i64 o, .int .i64 m], .agg #[.int .u8 st, .int .i64 n], .int .i64 a, .int .i64 b] w fun v w' => v = .returned (.bool true) ∧ Below w.heap.size w w' := by
  have hR1 := right_any e o m
  have hR2 := refright_any e o m
  rcases hr : Du.right e o m with _ | _
  · rw [hr] at hR1 hR2
    have hc := count_bad1 e o m a b (hr := hr)
    exact tells_not e o m st n a b _ _ _ _ false false false w hR1 hR2 (fun w => is_bad1 e o m a w hr) (fun w => ris_bad1 e o m a w hr) (fun w => fits_bad1 e o m st n a w hr) (fun w => rfits_bad1 e o m st n a w hr)
      (fun w => next_bad1 e o m a w hr) (fun w => rnext_bad1 e o m a w hr) (fun w => last_bad1 e o m a w hr) (fun w => rlast_bad1 e o m a w hr) hc (fun w => adv_bad1 e o m a b st n w hc) (Or.inl rfl)
  · rw [hr] at hR1 hR2
    have hk : Du.Ok e o m := by
      obtain ⟨h1, h2, h3, h4, h5, h6⟩ := Du.right_true.1 hr
      constructor <;> assumption
    rcases ha : Du.tick a with _ | _
    · have hc := count_bad2 e o m a b (hr := hr) (hs := ha)
      exact tells_not e o m st n a b _ _ _ _ true false false w hR1 hR2 (fun w => is_bad2 e o m a w hr ha) (fun w => ris_bad2 e o m a w hr ha) (fun w => fits_bad2 e o m st n a w hr ha) (fun w => rfits_bad2 e o m st n a w hr ha)
        (fun w => next_bad2 e o m a w hr ha) (fun w => rnext_bad2 e o m a w hr ha) (fun w => last_bad2 e o m a w hr ha) (fun w => rlast_bad2 e o m a w hr ha) hc (fun w => adv_bad1 e o m a b st n w hc) (Or.inr (Or.inl ⟨rfl, ha⟩))
    · obtain ⟨a0, a1⟩ := Du.tick_true.1 ha
      obtain ⟨q, hI1, hI2, -⟩ := is_both e o m a hk
      obtain ⟨f, hF1, hF2, hft⟩ := fits_both e o m st n a hk ha s0
      obtain ⟨x1, x2, hN1, hN2⟩ := next_all e o m a hk a0 a1
      obtain ⟨y1, y2, hL1, hL2⟩ := last_all e o m a hk a0 a1
      rcases hb : Du.tick b with _ | _
      · have hc := count_bad3 e o m a b (hr := hr) (hs := ha) (ht := hb)
        exact tells_not e o m st n a b x1 x2 y1 y2 true q f w hR1 hR2 hI1 hI2 hF1 hF2 hN1 hN2 hL1 hL2 hc (fun w => adv_bad1 e o m a b st n w hc) (Or.inr (Or.inr (Or.inl ⟨rfl, ha, hb⟩)))
      · obtain ⟨b0, b1⟩ := Du.tick_true.1 hb
        by_cases hab : b < a
        · have hc := count_bad4 e o m a b (hr := hr) (hs := ha) (ht := hb) (hts := hab)
          exact tells_not e o m st n a b x1 x2 y1 y2 true q f w hR1 hR2 hI1 hI2 hF1 hF2 hN1 hN2 hL1 hL2 hc (fun w => adv_bad1 e o m a b st n w hc) (Or.inr (Or.inr (Or.inr ⟨rfl, ha, hb, decide_eq_true hab⟩)))
        · have hab2 : a ≤ b := by omega
          have hc := fun w => count_ok e o m a b w hk a0 hab2 b1
          rcases f with _ | _
          · exact tells_unfit e o m st n a b x1 x2 y1 y2 true q false w hR1 hR2 hI1 hI2 hF1 hF2 hN1 hN2 hL1 hL2 rfl rfl hk a0 hab2 b1 hc (fun w => adv_bad2 e o m a b st n _ w hc hF1) (fun w => wake_bad e o m st n a w hF1)
          · exact tells_fit e o m st n a b x1 x2 y1 y2 true q true w hR1 hR2 hI1 hI2 hF1 hF2 hN1 hN2 hL1 hL2 rfl (hft rfl) rfl hk a0 hab2 b1 hc

set_option maxHeartbeats 1000000 in
theorem tellsLaw_any (e o m st n a b : Int) (w : World) (s0 : 0 ≤ st) :
    Calls Try.prog 3 #[.agg #[.int .i64 e, .int .i64 o, .int .i64 m], .agg #[.int .u8 st, .int .i64 n], .int .i64 a, .int .i64 b] w fun v w' => v = .returned (.bool true) ∧ Below w.heap.size w w' := by
  have HB := Lib.hid (((Below.refl w.heap.size w).alloc (Nat.le_refl _) (.cells #[.int .i64 e, .int .i64 o, .int .i64 m] 23)).alloc (by simp) (.cells #[.int .u8 st, .int .i64 n] 25))
  go_enter Try.func3, Try.ntmps3
  go_wp2_with fail
  refine (tells_any e o m st n a b _ s0).mono ?_
  rintro x w1 ⟨rfl, hb1⟩
  have HB1 := Lib.hid (HB.out.trans (hb1.mono HB.out.size))
  clear hb1
  go_wp2_with fail
  refine (awake_any w1).mono ?_
  rintro x w2 ⟨rfl, hb2⟩
  have HB2 := Lib.hid (HB1.out.trans (hb2.mono HB1.out.size))
  clear hb2
  go_wp2
  go_ret
  exact ⟨rfl, HB2.out⟩

theorem plan_of {H : Type} {enc : TypeId × Value → H} {W : World} {r : Reach} {b0 : Nat} {v : Value} {d : DataW H} {p : List MemPlace} (hv : Value.okWide Try.prog W r b0 23 v) (h : DataW.Trod enc Try.prog W 0 (fun _ => true) true 23 v d p) :
    ∃ e o m : Int, v = .agg #[.int .i64 e, .int .i64 o, .int .i64 m] := by
  obtain ⟨v0, v1, v2, y0, y1, y2, k, rfl, -, -, h0, h1, h2⟩ := Go.Joins.open_agg3 Try.underlying23 (by kernel_rfl) (by kernel_rfl) hv h
  obtain ⟨e, he, _, _⟩ := DataW.trod_int Try.underlying3 h0
  obtain ⟨o, ho, _, _⟩ := DataW.trod_int Try.underlying3 h1
  obtain ⟨m, hm, _, _⟩ := DataW.trod_int Try.underlying3 h2
  obtain rfl : v0 = .int .i64 e := by simpa using he
  obtain rfl : v1 = .int .i64 o := by simpa using ho
  obtain rfl : v2 = .int .i64 m := by simpa using hm
  exact ⟨_, _, _, rfl⟩
theorem phase_of {H : Type} {enc : TypeId × Value → H} {W : World} {r : Reach} {b0 : Nat} {v : Value} {d : DataW H} {p : List MemPlace} (hv : Value.okWide Try.prog W r b0 25 v) (h : DataW.Trod enc Try.prog W 0 (fun _ => true) true 25 v d p) :
    ∃ st n : Int, v = .agg #[.int .u8 st, .int .i64 n] ∧ 0 ≤ st := by
  obtain ⟨v0, v1, y0, y1, k, rfl, -, -, h0, h1⟩ := Go.Joins.open_agg2 Try.underlying25 (by kernel_rfl) (by kernel_rfl) hv h
  obtain ⟨st, hs, _, ws⟩ := DataW.trod_int (by kernel_rfl) h0
  obtain ⟨n, hn, _, _⟩ := DataW.trod_int Try.underlying3 h1
  obtain rfl : v0 = .int .u8 st := by simpa using hs
  obtain rfl : v1 = .int .i64 n := by simpa using hn
  exact ⟨_, _, rfl, (bounds_u8 ws).1⟩
end Go.Proofs.Ytpgdogcgdlijeaa
