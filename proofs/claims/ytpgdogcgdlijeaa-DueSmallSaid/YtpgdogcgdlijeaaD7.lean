/- Contracts of Is, Right, Make over kept blocks, and laws on due ticks that follow each other. Conditions: none beyond each theorem's own premises. -/
import Derived.Test.YtpgdogcgdlijeaaDLaws2
import Derived.Deep.RegionHeld3
namespace Go.Proofs.Ytpgdogcgdlijeaa
open Go.RowKit

section
variable {W0 W : World} {L : List (Nat × TypeId × Array Value)} {e o m : Int} {g : Nat}
theorem Kp.drew (h : Kp W0 L W) : Kp W0 L W.drew := ⟨h.below.drew, fun x hx => (h.has x hx).drew⟩
theorem Kp.plan (h : Kp W0 [(g, 23, #[.int .i64 e, .int .i64 o, .int .i64 m])] W) : W.cell? ⟨g, 0, none⟩ = some (.int .i64 e) ∧ W.cell? ⟨g, 1, none⟩ = some (.int .i64 o) ∧ W.cell? ⟨g, 2, none⟩ = some (.int .i64 m) :=
  ⟨h.cell (.head _) 0, h.cell (.head _) 1, h.cell (.head _) 2⟩
theorem is_kp (t : Int) (q : Bool) (hk : Du.Ok e o m) (t0 : 0 ≤ t) (t1 : t ≤ 281474976710656) (hqq : (t % e == o) = q) (h : Kp W0 L W) :
    Calls Try.prog 21 #[.agg #[.int .i64 e, .int .i64 o, .int .i64 m], .int .i64 t] W fun x w' => x = .returned (.bool q) ∧ Kp W0 L w' :=
  (is_ok e o m t W q hk t0 t1 hqq).mono fun _ _ ⟨he, k⟩ => ⟨he, h.on k⟩
theorem right_kp (hk : Du.Ok e o m) (h : Kp W0 L W) :
    Calls Try.prog 25 #[.agg #[.int .i64 e, .int .i64 o, .int .i64 m]] W fun x w' => x = .returned (.bool true) ∧ Kp W0 L w' :=
  (right_any e o m W).mono fun _ _ ⟨he, k⟩ => ⟨by rw [he, right_ok hk], h.on k⟩
theorem make_kp (n : Int) (h0 : 0 ≤ n) (e1 : 1 ≤ e) (e2 : e ≤ 1099511627776) (m1 : 1 ≤ m) (m2 : m ≤ e) (ho : n % e = o) (h : Kp W0 L W) :
    Calls Try.prog 14 #[.int .u64 n, .int .i64 e, .int .i64 m] W fun x w' => x = .returned (.tuple #[.agg #[.int .i64 e, .int .i64 o, .int .i64 m], .int .i64 0]) ∧ Kp W0 L w' :=
  (make_ok n e o m W h0 e1 e2 m1 m2 ho).mono fun _ _ ⟨he, k⟩ => ⟨he, h.on k⟩
end

namespace Du
theorem last_next {e o m t : Int} (hk : Ok e o m) : last e o (next e o t) = next e o t := by
  unfold last
  rw [up_at hk]
  unfold next
  rw [show upTo e o t + 1 - 1 = upTo e o t by omega]
theorem next_next {e o m t : Int} (hk : Ok e o m) : next e o (next e o t) = next e o t + e := by
  show o + upTo e o (next e o t) * e = _
  rw [up_at hk]
  unfold next
  have : (upTo e o t + 1) * e = upTo e o t * e + e := by rw [Int.add_mul, Int.one_mul]
  omega
theorem next_mod {e o m t : Int} (hk : Ok e o m) : next e o t % e = o :=
  (due_iff hk.e1 hk.o0 hk.o1 (next_ge hk.e1 hk.o0)).2 (next_due hk.e1)
theorem between {e o m t k : Int} (hk : Ok e o m) (t0 : 0 ≤ t) (h1 : t < k) (h2 : k ≤ next e o t) : (k % e == o) = (k == next e o t) := by
  rcases (show k = next e o t ∨ k < next e o t by omega) with h | h
  · rw [h, next_mod hk]; simp
  · have hne : (k == next e o t) = false := by simp; omega
    rw [hne]
    have hs := upTo_spec (e := e) (o := o) (t := t) hk.e1
    have e1 := hk.e1
    rcases (show k % e = o ∨ k % e ≠ o by omega) with h3 | h3
    · exfalso
      obtain ⟨j, hj, hjk⟩ := (due_iff hk.e1 hk.o0 hk.o1 (show 0 ≤ k by omega)).1 h3
      unfold next at h
      have h4 : j < upTo e o t := mul_lt hk.e1 (show j * e < upTo e o t * e by omega)
      have h5 := mul_le hk.e1 (show j ≤ upTo e o t - 1 by omega)
      rcases hs.low with h6 | h6 <;> omega
    · simp; exact h3
theorem last_then {e o t : Int} : next e o t = last e o t + e := by
  unfold next last
  have : (upTo e o t - 1) * e = upTo e o t * e - e := by rw [Int.sub_mul, Int.one_mul]
  omega
theorem next_first {e o t : Int} (h : t < o) : next e o t = o := by
  unfold next upTo
  rw [if_pos h]; omega
end Du
end Go.Proofs.Ytpgdogcgdlijeaa
