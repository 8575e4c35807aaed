/- Is, Fits: due's and the reference's answers are alike. Conditions: a right plan, a tick; any numbers else. -/
import Derived.Test.YtpgdogcgdlijeaaR4
namespace Go.Proofs.Ytpgdogcgdlijeaa
open Go.RowKit

section
variable (e o m : Int)
theorem is_both (n : Int) (hk : Du.Ok e o m) : ∃ q : Bool, (∀ w, Calls Try.prog 21 #[.agg #[.int .i64 e, .int .i64 o, .int .i64 m], .int .i64 n] w fun x w' => x = .returned (.bool q) ∧ Below w.heap.size w w') ∧
    (∀ w, Calls Try.prog 26 #[.agg #[.int .i64 e, .int .i64 o, .int .i64 m], .int .i64 n] w fun x w' => x = .returned (.bool q) ∧ Below w.heap.size w w') ∧ (q = true → Du.Due e o n ∧ 0 ≤ n ∧ n ≤ 281474976710656) := by
  have hr := right_ok hk
  rcases ht : Du.tick n with _ | _
  · exact ⟨false, fun w => is_bad2 e o m n w hr ht, fun w => ris_bad2 e o m n w hr ht, fun h => by cases h⟩
  · obtain ⟨n0, n1⟩ := Du.tick_true.1 ht
    refine ⟨(n % e == o), fun w => is_ok e o m n w _ hk n0 n1 rfl, fun w => ris_ok e o m n w _ hk n0 n1 rfl, fun h => ⟨?_, n0, n1⟩⟩
    exact (Du.due_iff hk.e1 hk.o0 hk.o1 n0).1 (by simpa using h)

theorem fits_both (st n t : Int) (hk : Du.Ok e o m) (ht : Du.tick t = true) (s0 : 0 ≤ st) : ∃ f : Bool, (∀ w, Calls Try.prog 18 #[.agg #[.int .i64 e, .int .i64 o, .int .i64 m], .agg #[.int .u8 st, .int .i64 n], .int .i64 t] w fun x w' => x = .returned (.bool f) ∧ Below w.heap.size w w') ∧
    (∀ w, Calls Try.prog 27 #[.agg #[.int .i64 e, .int .i64 o, .int .i64 m], .agg #[.int .u8 st, .int .i64 n], .int .i64 t] w fun x w' => x = .returned (.bool f) ∧ Below w.heap.size w w') ∧ (f = true → Du.fitsP e o m st n t) := by
  have hr := right_ok hk
  obtain ⟨t0, t1⟩ := Du.tick_true.1 ht
  obtain ⟨q, hi, ri, hq⟩ := is_both e o m n hk
  rcases (show 2 < st ∨ st = 0 ∨ (st = 1 ∨ st = 2) by omega) with h | h | h
  · rcases q with _ | _
    · exact ⟨false, fun w => dfits_over_false e o m st n t w hr ht h hi, fun w => rfits_over e o m st n t w hr ht h, fun h => by cases h⟩
    · exact ⟨false, fun w => dfits_over_true e o m st n t w hr ht h hi, fun w => rfits_over e o m st n t w hr ht h, fun h => by cases h⟩
  · by_cases hn : n = 0
    · have hf : Du.fitsP e o m st n t := Or.inl ⟨h, hn⟩
      exact ⟨true, fun w => fits_ok e o m st n t w hk t0 t1 hf, fun w => rfits_idle e o m st n t w hr ht h true (by simp; exact hn), fun _ => hf⟩
    · have hb : (n == 0) = false := by simp; exact hn
      rcases q with _ | _
      · exact ⟨false, fun w => dfits_idle_false e o m st n t w hr ht h hn hi, fun w => rfits_idle e o m st n t w hr ht h false hb, fun h => by cases h⟩
      · exact ⟨false, fun w => dfits_idle_true e o m st n t w hr ht h hn hi, fun w => rfits_idle e o m st n t w hr ht h false hb, fun h => by cases h⟩
  · rcases q with _ | _
    · exact ⟨false, fun w => dfits_no_is e o m st n t w hr ht h hi, fun w => rfits_no_is e o m st n t w hr ht h ri, fun h => by cases h⟩
    · obtain ⟨hd, n0, n1⟩ := hq rfl
      by_cases hl : t < n
      · exact ⟨false, fun w => dfits_later e o m st n t w hr ht h hl hi, fun w => rfits_later e o m st n t w hr ht h hl ri, fun h => by cases h⟩
      · have hl2 : n ≤ t := by omega
        rcases h with h | h
        · by_cases hx : n + m ≤ t
          · exact ⟨false, fun w => dfits_past e o m st n t w hr ht h n0 hl2 hx hi, fun w => rfits_past e o m st n t w hr ht h n0 hl2 hx ri, fun h => by cases h⟩
          · have hx2 : t < n + m := by omega
            exact ⟨true, fun w => dfits_open e o m st n t w hr ht h n0 hl2 hx2 hi, fun w => rfits_open e o m st n t w hr ht h n0 hl2 hx2 ri, fun _ => Or.inr ⟨hd, hl2, n0, Or.inl ⟨h, hx2⟩⟩⟩
        · exact ⟨true, fun w => dfits_wait e o m st n t w hr ht h hl2 hi, fun w => rfits_wait e o m st n t w hr ht h hl2 ri, fun _ => Or.inr ⟨hd, hl2, n0, Or.inr h⟩⟩
end
end Go.Proofs.Ytpgdogcgdlijeaa
