/- Wake, tick by tick, against the tick at which something happens. No program is named here. Conditions: a right plan, a phase that fits. -/
import Derived.Test.YtpgdogcgdlijeaaRPlain2
import Derived.Test.YtpgdogcgdlijeaaD6
namespace Go.Proofs.Ytpgdogcgdlijeaa.Du

/-- The first tick behind t at which something happens. -/
def wk (e o m st n t : Int) : Int := if st = 1 ∧ n + m < next e o t then n + m else next e o t

theorem wk_gt {e o m st n t : Int} (hk : Ok e o m) (hf : fitsP e o m st n t) : t < wk e o m st n t := by
  have h1 := next_gt (o := o) (t := t) hk.e1
  unfold wk
  split
  · rename_i h
    rcases hf with ⟨h2, -⟩ | ⟨-, -, -, ⟨-, h3⟩ | h3⟩ <;> omega
  · exact h1

theorem happens {e o m st n t x s' n' b f k : Int} (hk : Ok e o m) (t0 : 0 ≤ t) (hf : fitsP e o m st n t) (h1 : t < x) (h2 : x ≤ wk e o m st n t) (hp : Pass e o m st n (-1) (-1) 0 x s' n' b f k) :
    (x < wk e o m st n t → s' = st ∧ n' = n ∧ k = 0) ∧ (x = wk e o m st n t → (s' ≠ st ∨ n' ≠ n) ∨ 0 < k) := by
  have hx : x ≤ next e o t := by
    unfold wk at h2
    split at h2 <;> omega
  have hb := between (k := x) hk t0 h1 hx
  have hb2 : x % e = o ↔ x = next e o t := by
    constructor
    · intro h
      rw [h] at hb
      simpa using hb
    · intro h
      rw [← h] at hb
      simpa using hb
  have hfs : (st = 0 ∧ n = 0) ∨ (n ≤ t ∧ ((st = 1 ∧ t < n + m) ∨ st = 2)) := by
    rcases hf with h1 | ⟨_, h2, _, h3⟩
    · exact Or.inl h1
    · exact Or.inr ⟨h2, h3⟩
  obtain ⟨s1, f1, hp1, hp2⟩ := hp.law
  clear hb hf hp
  unfold wk at h2 ⊢
  generalize next e o t = D at *
  rcases Decidable.em (x = D) with hd | hd
  · have hq := hb2.2 hd
    have hp3 : (s1 = 0 ∧ s' = 1 ∧ n' = x ∧ b = x ∧ f = f1 ∧ k = 0) ∨ (s1 ≠ 0 ∧ s' = s1 ∧ n' = n ∧ b = -1 ∧ f = f1 ∧ k = 0 + 1) := by
      rcases hp2 with h | h | h
      · exact Or.inl h.2
      · exact Or.inr h.2
      · exact absurd hq h.1
    clear hp2 hb2 hq
    split at h2 <;> constructor <;> intro h <;> omega
  · have hq : ¬ x % e = o := fun h => hd (hb2.1 h)
    have hp3 : s' = s1 ∧ n' = n ∧ b = -1 ∧ f = f1 ∧ k = 0 := by
      rcases hp2 with h | h | h
      · exact absurd h.1 hq
      · exact absurd h.1 hq
      · exact h.2
    clear hp2 hb2 hq
    split at h2 <;> constructor <;> intro h <;> omega

/-- What the reference's Wake finds, looking at most at some ticks. -/
structure Rw (e o m st n t most q : Int) : Prop where
  law : (q = wk e o m st n t ∧ wk e o m st n t ≤ t + most ∧ wk e o m st n t ≤ 281474976710656) ∨ (q = -1 ∧ (t + most < wk e o m st n t ∨ 281474976710656 < wk e o m st n t))

theorem wakes_ref {e o m st n t r f q : Int} (hk : Ok e o m) (t0 : 0 ≤ t) (hf : fitsP e o m st n t) (h : Wk e o m st n t r f) (hq : Rw e o m st n t 3000 q) :
    (q < 0 ∧ ((f = 0 ∧ t + 3000 < r) ∨ (f = 4 ∧ r = 0))) ∨ (0 ≤ q ∧ f = 0 ∧ r = q) := by
  have hw := wk_gt hk hf
  have l := h.law
  have q' := hq.law
  clear h hq hf
  unfold wk at hw q'
  generalize next e o t = D at *
  by_cases hc : st = 1 ∧ n + m < D
  · simp only [if_pos hc] at hw q'
    omega
  · simp only [if_neg hc] at hw q'
    omega
end Go.Proofs.Ytpgdogcgdlijeaa.Du
