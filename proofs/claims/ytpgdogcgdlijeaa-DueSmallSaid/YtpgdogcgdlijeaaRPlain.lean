/- The reference's reckonings, tick by tick, against what is due. No program is named here. Conditions: a right plan, ticks. -/
import Derived.Test.YtpgdogcgdlijeaaDLaws2
import Derived.Test.YtpgdogcgdlijeaaD7
namespace Go.Proofs.Ytpgdogcgdlijeaa.Du

theorem ref_next {e o m t : Int} (hk : Ok e o m) (t0 : 0 ≤ t) :
    (t - t % e + o ≤ t → t - t % e + o + e = next e o t) ∧ (t < t - t % e + o → t - t % e + o = next e o t) := by
  have e1 := hk.e1
  have o0 := hk.o0
  have o1 := hk.o1
  have r0 := Int.emod_nonneg t (show e ≠ 0 by omega)
  have r1 := Int.emod_lt_of_pos t (show 0 < e by omega)
  have r2 := Int.emod_add_mul_ediv t e
  rw [Int.mul_comm] at r2
  have q0 : 0 ≤ t / e := Int.ediv_nonneg t0 (by omega)
  generalize t % e = r at *
  generalize t / e = q at *
  have hq1 : (q + 1) * e = q * e + e := by rw [Int.add_mul, Int.one_mul]
  have hq2 : (q - 1) * e = q * e - e := by rw [Int.sub_mul, Int.one_mul]
  have hqe := Int.mul_nonneg q0 (show 0 ≤ e by omega)
  unfold next
  constructor
  · intro h
    have : upTo e o t = q + 1 := up_one e1 (upTo_spec e1) ⟨by omega, by omega, Or.inr ⟨by omega, by omega, by rw [show q + 1 - 1 = q by omega]; omega⟩⟩
    rw [this]; omega
  · intro h
    have : upTo e o t = q := by
      refine up_one e1 (upTo_spec e1) ⟨by omega, by omega, ?_⟩
      rcases (show q = 0 ∨ 1 ≤ q by omega) with h1 | h1
      · subst h1; exact Or.inl ⟨rfl, by omega⟩
      · have := mul_le e1 h1
        exact Or.inr ⟨h1, by omega, by omega⟩
    rw [this]; omega

theorem ref_last {e o m t : Int} (hk : Ok e o m) (t0 : 0 ≤ t) :
    (t - t % e + o ≤ t → t - t % e + o = last e o t ∧ o ≤ t) ∧ (t < t - t % e + o → (o ≤ t → t - t % e + o - e = last e o t ∧ 0 ≤ t - t % e + o - e) ∧ (t < o → t - t % e + o - e < 0)) := by
  obtain ⟨h1, h2⟩ := ref_next hk t0
  have h3 := last_then (e := e) (o := o) (t := t)
  have o1 := hk.o1
  have e1 := hk.e1
  have r0 := Int.emod_nonneg t (show e ≠ 0 by omega)
  have r1 := Int.emod_lt_of_pos t (show 0 < e by omega)
  have hs := upTo_spec (e := e) (o := o) (t := t) e1
  have hn := fun h => next_first (e := e) (o := o) (t := t) h
  have hl : o ≤ t → 0 ≤ last e o t := by
    intro h
    unfold last
    rcases hs.low with hl | hl
    · omega
    · have := Int.mul_nonneg (show 0 ≤ upTo e o t - 1 by omega) (show 0 ≤ e by omega)
      have := hk.o0
      omega
  refine ⟨fun h => ?_, fun h => ⟨fun h4 => ?_, fun h4 => ?_⟩⟩
  · have h4 := h1 h
    refine ⟨by omega, ?_⟩
    rcases (show o ≤ t ∨ t < o by omega) with h5 | h5
    · exact h5
    · have := hn h5
      omega
  · have := h2 h
    have := hl h4
    omega
  · have := h2 h
    have := hn h4
    omega

theorem up_succ {e o m t : Int} (hk : Ok e o m) (t0 : 0 ≤ t) : upTo e o (t + 1) = upTo e o t + (if (t + 1) % e = o then 1 else 0) := by
  have hg := next_gt (o := o) (t := t) hk.e1
  have hb := between (k := t + 1) hk t0 (by omega) (by omega)
  rcases (show t + 1 = next e o t ∨ t + 1 < next e o t by omega) with h | h
  · have h1 : (t + 1) % e = o := by rw [h]; exact next_mod hk
    rw [if_pos h1, h, up_at hk]
  · have h1 : ¬ (t + 1) % e = o := by
      intro hh
      rw [hh] at hb
      simp at hb
      omega
    rw [if_neg h1, up_before hk (by omega) h]
    omega

/-- One tick of the reference: the phase (state, since) and the report (begun, failed, skipped) behind tick t. -/
structure Pass (e o m st n b f k t st' n' b' f' k' : Int) : Prop where
  law : ∃ s1 f1, ((st = 1 ∧ t = n + m ∧ s1 = 2 ∧ f1 = n) ∨ (¬ (st = 1 ∧ t = n + m) ∧ s1 = st ∧ f1 = f)) ∧
    ((t % e = o ∧ s1 = 0 ∧ st' = 1 ∧ n' = t ∧ b' = t ∧ f' = f1 ∧ k' = k) ∨ (t % e = o ∧ s1 ≠ 0 ∧ st' = s1 ∧ n' = n ∧ b' = b ∧ f' = f1 ∧ k' = k + 1) ∨
      (t % e ≠ o ∧ st' = s1 ∧ n' = n ∧ b' = b ∧ f' = f1 ∧ k' = k))

set_option maxHeartbeats 4000000 in
theorem pass_step {e o m st n a t s' n' b f k s2 n2 b2 f2 k2 : Int} (hk : Ok e o m) (a0 : 0 ≤ a) (hat : a ≤ t) (hf : fitsP e o m st n a) (h : Adv e o m st n a t s' n' b f k)
    (hp : Pass e o m s' n' b f k (t + 1) s2 n2 b2 f2 k2) : Adv e o m st n a (t + 1) s2 n2 b2 f2 k2 := by
  have hu := up_succ hk (show 0 ≤ t by omega)
  have hfirst : upTo e o t - upTo e o a = 0 → (t + 1) % e = o → t + 1 = next e o a := by
    intro h1 h2
    rw [if_pos h2] at hu
    have h3 := next_le (o := o) hk.e1 (show a ≤ t + 1 by omega) (by omega)
    have h4 := next_gt (o := o) (t := t) hk.e1
    have h5 := next_same h1
    omega
  have hlater : upTo e o t - upTo e o a ≠ 0 → next e o a ≤ t := fun h1 => next_le hk.e1 hat h1
  have hm := up_le (o := o) hk.e1 hat
  have m1 := hk.m1
  have hfs : (st = 0 ∧ n = 0) ∨ (n ≤ a ∧ ((st = 1 ∧ a < n + m) ∨ st = 2)) := by
    rcases hf with h1 | ⟨_, h2, _, h3⟩
    · exact Or.inl h1
    · exact Or.inr ⟨h2, h3⟩
  have hl := h.law
  obtain ⟨s1, f1, hp1, hp2⟩ := hp.law
  clear h hf hp
  constructor
  generalize upTo e o (t + 1) = V at *
  generalize upTo e o t = U at *
  generalize upTo e o a = A at *
  generalize next e o a = D at *
  rcases Decidable.em ((t + 1) % e = o) with hd | hd
  · have hf2 := fun q => hfirst q hd
    rw [if_pos hd] at hu
    clear hfirst
    have hp3 : (s1 = 0 ∧ s2 = 1 ∧ n2 = t + 1 ∧ b2 = t + 1 ∧ f2 = f1 ∧ k2 = k) ∨ (s1 ≠ 0 ∧ s2 = s1 ∧ n2 = n' ∧ b2 = b ∧ f2 = f1 ∧ k2 = k + 1) := by
      rcases hp2 with h | h | h
      · exact Or.inl h.2
      · exact Or.inr h.2
      · exact absurd hd h.1
    clear hp2 hd
    rcases (show U - A = 0 ∨ U - A ≠ 0 by omega) with hz | hz
    · have hD := hf2 hz
      clear hf2 hlater
      rcases hl with l | l | l | l
      · exact Or.inl (by omega)
      · exact Or.inr (Or.inr (Or.inl (by omega)))
      · exfalso; omega
      · exact Or.inr (Or.inr (Or.inr (by omega)))
    · have hD := hlater hz
      clear hf2 hlater
      rcases hl with l | l | l | l
      · exact Or.inl (by omega)
      · exfalso; omega
      · exact Or.inr (Or.inr (Or.inl (by omega)))
      · exact Or.inr (Or.inr (Or.inr (by omega)))
  · rw [if_neg hd] at hu
    have hp3 : s2 = s1 ∧ n2 = n' ∧ b2 = b ∧ f2 = f1 ∧ k2 = k := by
      rcases hp2 with h | h | h
      · exact absurd h.1 hd
      · exact absurd h.1 hd
      · exact h.2
    clear hp2 hfirst hd
    rcases hl with l | l | l | l
    · exact Or.inl (by omega)
    · exact Or.inr (Or.inl (by omega))
    · have hD := hlater (by omega)
      exact Or.inr (Or.inr (Or.inl (by omega)))
    · exact Or.inr (Or.inr (Or.inr (by omega)))
end Go.Proofs.Ytpgdogcgdlijeaa.Du
