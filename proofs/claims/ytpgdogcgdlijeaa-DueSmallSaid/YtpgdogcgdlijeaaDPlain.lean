/- Plans, phases and reports as plain numbers, and what is due. No program is named here. Conditions: none. -/
namespace Go.Proofs.Ytpgdogcgdlijeaa.Du

def tick (t : Int) : Bool := decide (0 ≤ t) && decide (t ≤ 281474976710656)
def right (e o m : Int) : Bool := decide (1 ≤ e) && (decide (e ≤ 1099511627776) && (decide (0 ≤ o) && (decide (o < e) && (decide (1 ≤ m) && decide (m ≤ e)))))

theorem tick_true {t : Int} : tick t = true ↔ 0 ≤ t ∧ t ≤ 281474976710656 := by simp [tick]
theorem tick_false {t : Int} : tick t = false ↔ ¬ (0 ≤ t ∧ t ≤ 281474976710656) := by simp [tick]
theorem right_true {e o m : Int} : right e o m = true ↔ 1 ≤ e ∧ e ≤ 1099511627776 ∧ 0 ≤ o ∧ o < e ∧ 1 ≤ m ∧ m ≤ e := by simp [right]
theorem right_false {e o m : Int} : right e o m = false ↔ ¬ (1 ≤ e ∧ e ≤ 1099511627776 ∧ 0 ≤ o ∧ o < e ∧ 1 ≤ m ∧ m ≤ e) := by
  rw [← right_true]; simp

/-- How many due ticks there are up to a tick. -/
def upTo (e o t : Int) : Int := if t < o then 0 else (t - o) / e + 1
def next (e o t : Int) : Int := o + upTo e o t * e
def last (e o t : Int) : Int := o + (upTo e o t - 1) * e

/-- What a tick's number of due ticks is. -/
structure Up (e o t u : Int) : Prop where
  u0 : 0 ≤ u
  hi : t < o + u * e
  low : (u = 0 ∧ t < o) ∨ (1 ≤ u ∧ o ≤ t ∧ o + (u - 1) * e ≤ t)

theorem upTo_spec {e o t : Int} (he : 1 ≤ e) : Up e o t (upTo e o t) := by
  unfold upTo
  split
  · exact ⟨by omega, by omega, Or.inl ⟨rfl, by omega⟩⟩
  · have h0 : 0 ≤ (t - o) / e := Int.ediv_nonneg (by omega) (by omega)
    have h1 := Int.ediv_mul_le (t - o) (show e ≠ 0 by omega)
    have h2 := Int.lt_ediv_add_one_mul_self (t - o) (show 0 < e by omega)
    refine ⟨by omega, by omega, Or.inr ⟨by omega, by omega, ?_⟩⟩
    rw [show (t - o) / e + 1 - 1 = (t - o) / e by omega]
    omega

theorem mul_lt {a b e : Int} (he : 1 ≤ e) (h : a * e < b * e) : a < b := Int.lt_of_mul_lt_mul_right h (by omega)
theorem mul_le {a b e : Int} (he : 1 ≤ e) (h : a ≤ b) : a * e ≤ b * e := Int.mul_le_mul_of_nonneg_right h (by omega)

theorem up_one {e o t u v : Int} (he : 1 ≤ e) (h : Up e o t u) (k : Up e o t v) : u = v := by
  obtain ⟨h0, h1, h2⟩ := h
  obtain ⟨k0, k1, k2⟩ := k
  have e1 : (u - 1) * e = u * e - e := by rw [Int.sub_mul, Int.one_mul]
  have e2 : (v - 1) * e = v * e - e := by rw [Int.sub_mul, Int.one_mul]
  rcases (show u < v ∨ u = v ∨ v < u by omega) with hl | hl | hl
  · have := mul_le he (show u ≤ v - 1 by omega)
    rcases k2 with k2 | k2 <;> omega
  · exact hl
  · have := mul_le he (show v ≤ u - 1 by omega)
    rcases h2 with h2 | h2 <;> omega

theorem up_mono {e o t s u v : Int} (he : 1 ≤ e) (hts : t ≤ s) (h : Up e o t u) (k : Up e o s v) : u ≤ v := by
  obtain ⟨h0, h1, h2⟩ := h
  obtain ⟨k0, k1, k2⟩ := k
  have e1 : (u - 1) * e = u * e - e := by rw [Int.sub_mul, Int.one_mul]
  rcases (show u ≤ v ∨ v < u by omega) with hl | hl
  · exact hl
  · have := mul_le he (show v ≤ u - 1 by omega)
    rcases h2 with h2 | h2 <;> omega

/-- A tick at which something is due. -/
def Due (e o t : Int) : Prop := ∃ j : Int, 0 ≤ j ∧ t = o + j * e

theorem due_iff {e o t : Int} (he : 1 ≤ e) (ho : 0 ≤ o) (hoe : o < e) (ht : 0 ≤ t) : t % e = o ↔ Due e o t := by
  constructor
  · intro h
    refine ⟨t / e, Int.ediv_nonneg ht (by omega), ?_⟩
    have := Int.emod_add_mul_ediv t e
    rw [Int.mul_comm] at this
    omega
  · rintro ⟨j, hj, rfl⟩
    rw [Int.add_mul_emod_self_right]
    exact Int.emod_eq_of_lt ho hoe

theorem due_up {e o t j u : Int} (he : 1 ≤ e) (h : Up e o t u) (hj : 0 ≤ j) (ht : t = o + j * e) : u = j + 1 := by
  have hm : (j + 1) * e = j * e + e := by rw [Int.add_mul, Int.one_mul]
  have hp := Int.mul_nonneg hj (show 0 ≤ e by omega)
  exact up_one he h ⟨by omega, by rw [hm]; omega, Or.inr ⟨by omega, by omega, by rw [show j + 1 - 1 = j by omega]; omega⟩⟩

/-- The rest by which the next due tick is found. -/
theorem next_cases {e o t : Int} (he : 1 ≤ e) :
    (0 < (t + 1 - o).tmod e ∧ t + 1 + (e - (t + 1 - o).tmod e) = next e o t ∧ (t + 1 - o).tmod e < e) ∨
    ((t + 1 - o).tmod e ≤ 0 ∧ t + 1 < o ∧ next e o t = o) ∨ ((t + 1 - o).tmod e ≤ 0 ∧ o ≤ t + 1 ∧ next e o t = t + 1) := by
  unfold next upTo
  rcases (show t + 1 < o ∨ t + 1 = o ∨ o < t + 1 by omega) with h | h | h
  · refine Or.inr (Or.inl ⟨?_, h, ?_⟩)
    · have := Int.tmod_nonneg (a := o - (t + 1)) e (by omega)
      have h2 : (t + 1 - o).tmod e = -((o - (t + 1)).tmod e) := by rw [← Int.neg_tmod]; congr 1; omega
      omega
    · rw [if_pos (by omega)]; omega
  · refine Or.inr (Or.inr ⟨?_, by omega, ?_⟩)
    · rw [h, Int.sub_self, Int.zero_tmod]; omega
    · rw [if_pos (by omega)]; omega
  · rw [if_neg (by omega), Int.tmod_eq_emod_of_nonneg (show 0 ≤ t + 1 - o by omega)]
    have r0 := Int.emod_nonneg (t + 1 - o) (show e ≠ 0 by omega)
    have r1 := Int.emod_lt_of_pos (t + 1 - o) (show 0 < e by omega)
    have r2 := Int.emod_add_mul_ediv (t + 1 - o) e
    have hs := upTo_spec (t := t) (o := o) he
    unfold upTo at hs
    rw [if_neg (by omega)] at hs
    rw [Int.mul_comm] at r2
    generalize hq : (t + 1 - o) / e = q at *
    generalize hr : (t + 1 - o) % e = r at *
    have hqn : 0 ≤ q := by rw [← hq]; exact Int.ediv_nonneg (by omega) (by omega)
    have hqe := Int.mul_nonneg hqn (show 0 ≤ e by omega)
    have hm : (q + 1) * e = q * e + e := by rw [Int.add_mul, Int.one_mul]
    rcases (show 0 < r ∨ r = 0 by omega) with hr0 | hr0
    · have : (t - o) / e + 1 = q + 1 := up_one he hs ⟨by omega, by rw [hm]; omega, Or.inr ⟨by omega, by omega, by rw [show q + 1 - 1 = q by omega]; omega⟩⟩
      refine Or.inl ⟨hr0, ?_, r1⟩
      rw [this, hm]; omega
    · have hq1 : 1 ≤ q := by
        rcases (show q = 0 ∨ 1 ≤ q by omega) with h0 | h0
        · rw [h0, Int.zero_mul] at r2; omega
        · exact h0
      have e2 : (q - 1) * e = q * e - e := by rw [Int.sub_mul, Int.one_mul]
      have : (t - o) / e + 1 = q := up_one he hs ⟨by omega, by omega, Or.inr ⟨by omega, by omega, by omega⟩⟩
      refine Or.inr (Or.inr ⟨by omega, by omega, ?_⟩)
      rw [this]; omega

theorem last_eq {e o t : Int} (h : o ≤ t) : t - (t - o).tmod e = last e o t := by
  unfold last upTo
  rw [if_neg (by omega), Int.tmod_eq_emod_of_nonneg (show 0 ≤ t - o by omega)]
  have r2 := Int.emod_add_mul_ediv (t - o) e
  rw [Int.mul_comm] at r2
  rw [show (t - o) / e + 1 - 1 = (t - o) / e by omega]
  omega

theorem up_bounds {e o t u : Int} (he : 1 ≤ e) (ho : 0 ≤ o) (ht : t ≤ 281474976710656) (h : Up e o t u) : u ≤ 281474976710657 ∧ u * e ≤ 281474976710656 + e ∧ 0 ≤ u * e := by
  obtain ⟨h0, h1, h2⟩ := h
  have e1 : (u - 1) * e = u * e - e := by rw [Int.sub_mul, Int.one_mul]
  have e2 := Int.mul_nonneg h0 (show 0 ≤ e by omega)
  rcases h2 with ⟨h2, h3⟩ | ⟨h2, h3, h4⟩
  · subst h2; omega
  · have := Int.mul_le_mul_of_nonneg_left he (show 0 ≤ u - 1 by omega)
    omega

/-- A phase that fits a plan at a tick (state, since). -/
def fitsP (e o m st since now : Int) : Prop := (st = 0 ∧ since = 0) ∨ (Due e o since ∧ since ≤ now ∧ 0 ≤ since ∧ ((st = 1 ∧ now < since + m) ∨ st = 2))

/-- What Advance makes of a phase that fits: the phase, and the report. -/
structure Adv (e o m st since from_ to st' since' b f k : Int) : Prop where
  law :
    (st = 2 ∧ st' = 2 ∧ since' = since ∧ b = -1 ∧ f = -1 ∧ k = upTo e o to - upTo e o from_) ∨
    (st = 0 ∧ upTo e o to - upTo e o from_ = 0 ∧ st' = 0 ∧ since' = since ∧ b = -1 ∧ f = -1 ∧ k = 0) ∨
    (st = 0 ∧ upTo e o to - upTo e o from_ ≠ 0 ∧ since' = next e o from_ ∧ b = next e o from_ ∧ k = upTo e o to - upTo e o from_ - 1 ∧
      ((next e o from_ + m ≤ to ∧ st' = 2 ∧ f = next e o from_) ∨ (to < next e o from_ + m ∧ st' = 1 ∧ f = -1))) ∨
    (st = 1 ∧ since' = since ∧ b = -1 ∧ k = upTo e o to - upTo e o from_ ∧
      ((since + m ≤ to ∧ st' = 2 ∧ f = since) ∨ (to < since + m ∧ st' = 1 ∧ f = -1)))
end Go.Proofs.Ytpgdogcgdlijeaa.Du
