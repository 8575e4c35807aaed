/- What follows of Wake's, Advance's and Count's outcomes, in plain numbers (2). No program is named here. Conditions: a right plan, ticks in order, a phase that fits. -/
import Derived.Test.YtpgdogcgdlijeaaD6
namespace Go.Proofs.Ytpgdogcgdlijeaa.Du

theorem up_before {e o m t w : Int} (hk : Ok e o m) (h1 : t ≤ w) (h2 : w < next e o t) : upTo e o w = upTo e o t := by
  have hs := upTo_spec (e := e) (o := o) (t := t) hk.e1
  unfold next at h2
  refine up_one hk.e1 (upTo_spec hk.e1) ⟨hs.u0, h2, ?_⟩
  rcases hs.low with h | h
  · rcases (show w < o ∨ o ≤ w by omega) with h3 | h3
    · exact Or.inl ⟨h.1, h3⟩
    · exfalso
      rw [h.1, Int.zero_mul] at h2
      omega
  · exact Or.inr (by omega)

theorem up_at {e o m t : Int} (hk : Ok e o m) : upTo e o (next e o t) = upTo e o t + 1 := by
  have hs := upTo_spec (e := e) (o := o) (t := t) hk.e1
  exact due_up hk.e1 (upTo_spec hk.e1) hs.u0 rfl

theorem next_near {e o m t : Int} (hk : Ok e o m) (t0 : 0 ≤ t) : next e o t ≤ t + e := by
  have hs := upTo_spec (e := e) (o := o) (t := t) hk.e1
  have e2 : (upTo e o t - 1) * e = upTo e o t * e - e := by rw [Int.sub_mul, Int.one_mul]
  have o1 := hk.o1
  unfold next
  rcases hs.low with ⟨h, -⟩ | h
  · rw [h, Int.zero_mul]; omega
  · omega

theorem wakes0 {e o m st n t w f : Int} (hk : Ok e o m) (t0 : 0 ≤ t) (tm : t ≤ 140737488355328) (hf : fitsP e o m st n t) (hw : Wk e o m st n t w f) : t < w ∧ w ≤ 281474976710656 ∧ f = 0 := by
  have hn := next_near (o := o) hk t0
  have hg := next_gt (o := o) (t := t) hk.e1
  have e2 := hk.e2
  have hfst : (st = 0 ∧ n = 0) ∨ (st = 1 ∧ t < n + m ∧ n ≤ t) ∨ st = 2 := by
    rcases hf with h | ⟨-, h, -, h3 | h3⟩
    · exact Or.inl h
    · exact Or.inr (Or.inl ⟨h3.1, h3.2, h⟩)
    · exact Or.inr (Or.inr h3)
  have hwl := hw.law
  omega

theorem wakes1 {e o m st n t w f x1 x2 r1 r2 r3 : Int} (hk : Ok e o m) (t0 : 0 ≤ t) (tm : t ≤ 140737488355328) (hf : fitsP e o m st n t) (hw : Wk e o m st n t w f)
    (h1 : Adv e o m st n t (w - 1) x1 x2 r1 r2 r3) : x1 = st ∧ x2 = n ∧ r1 = -1 ∧ r2 = -1 ∧ r3 = 0 := by
  have hn := next_near (o := o) hk t0
  have hg := next_gt (o := o) (t := t) hk.e1
  have e2 := hk.e2
  have m1 := hk.m1
  have hfst : (st = 0 ∧ n = 0) ∨ (st = 1 ∧ t < n + m ∧ n ≤ t) ∨ st = 2 := by
    rcases hf with h | ⟨-, h, -, h3 | h3⟩
    · exact Or.inl h
    · exact Or.inr (Or.inl ⟨h3.1, h3.2, h⟩)
    · exact Or.inr (Or.inr h3)
  have hwl := hw.law
  have hlt : t < w ∧ w ≤ next e o t ∧ f = 0 := by omega
  have a1 := h1.law
  have hb := up_before (o := o) (t := t) (w := w - 1) hk (by omega) (by omega)
  clear h1 hf hw
  rw [hb] at a1
  generalize upTo e o t = U at *
  generalize next e o t = D at *
  refine ⟨?_, ?_, ?_, ?_, ?_⟩ <;> omega

theorem wakes2 {e o m st n t w f y1 y2 t1 t2 t3 : Int} (hk : Ok e o m) (t0 : 0 ≤ t) (tm : t ≤ 140737488355328) (hf : fitsP e o m st n t) (hw : Wk e o m st n t w f)
    (h2 : Adv e o m st n t w y1 y2 t1 t2 t3) : y1 ≠ st ∨ (y1 = st ∧ y2 = n ∧ t1 = -1 ∧ t2 = -1 ∧ t3 = 1) := by
  have hn := next_near (o := o) hk t0
  have hg := next_gt (o := o) (t := t) hk.e1
  have e2 := hk.e2
  have m1 := hk.m1
  have hfst : (st = 0 ∧ n = 0) ∨ (st = 1 ∧ t < n + m ∧ n ≤ t) ∨ st = 2 := by
    rcases hf with h | ⟨-, h, -, h3 | h3⟩
    · exact Or.inl h
    · exact Or.inr (Or.inl ⟨h3.1, h3.2, h⟩)
    · exact Or.inr (Or.inr h3)
  have hwl := hw.law
  have hlt : t < w ∧ w ≤ next e o t ∧ f = 0 := by omega
  have a2 := h2.law
  have hc : (w = next e o t ∧ upTo e o w = upTo e o t + 1) ∨ (w < next e o t ∧ upTo e o w = upTo e o t) := by
    rcases (show w = next e o t ∨ w < next e o t by omega) with h | h
    · exact Or.inl ⟨h, by rw [h]; exact up_at hk⟩
    · exact Or.inr ⟨h, up_before hk (by omega) h⟩
  clear h2 hf hw
  generalize upTo e o t = U at *
  generalize upTo e o w = V at *
  generalize next e o t = D at *
  rcases a2 with a2 | a2 | a2 | a2
  · exact Or.inr (by omega)
  · exfalso; omega
  · exact Or.inl (by omega)
  · rcases (show w < n + m ∨ n + m ≤ w by omega) with h | h
    · exact Or.inr (by omega)
    · exact Or.inl (by omega)
end Go.Proofs.Ytpgdogcgdlijeaa.Du
