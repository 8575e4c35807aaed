/- What follows of Advance's outcome, in plain numbers. No program is named here. Conditions: a right plan, ticks in order, a phase that fits. -/
import Derived.Test.YtpgdogcgdlijeaaDPlain
namespace Go.Proofs.Ytpgdogcgdlijeaa.Du

/-- A right plan. -/
structure Ok (e o m : Int) : Prop where
  e1 : 1 ≤ e
  e2 : e ≤ 1099511627776
  o0 : 0 ≤ o
  o1 : o < e
  m1 : 1 ≤ m
  m2 : m ≤ e

theorem up_le {e o a b : Int} (he : 1 ≤ e) (h : a ≤ b) : upTo e o a ≤ upTo e o b := up_mono he h (upTo_spec he) (upTo_spec he)

theorem next_gt {e o t : Int} (he : 1 ≤ e) : t < next e o t := (upTo_spec he).hi

theorem next_ge {e o t : Int} (he : 1 ≤ e) (ho : 0 ≤ o) : 0 ≤ next e o t := by
  have h := Int.mul_nonneg (upTo_spec (e := e) (o := o) (t := t) he).u0 (show 0 ≤ e by omega)
  unfold next; omega

theorem next_le {e o a b : Int} (he : 1 ≤ e) (hab : a ≤ b) (h : upTo e o b - upTo e o a ≠ 0) : next e o a ≤ b := by
  have hs := upTo_spec (e := e) (o := o) (t := b) he
  have hm := up_le (o := o) he hab
  have := mul_le he (show upTo e o a ≤ upTo e o b - 1 by omega)
  have u0 := (upTo_spec (e := e) (o := o) (t := a) he).u0
  unfold next
  rcases hs.low with h2 | h2 <;> omega

theorem next_same {e o a b : Int} (h : upTo e o b - upTo e o a = 0) : next e o b = next e o a := by
  unfold next
  rw [show upTo e o b = upTo e o a by omega]

theorem next_due {e o t : Int} (he : 1 ≤ e) : Due e o (next e o t) := ⟨_, (upTo_spec he).u0, rfl⟩

theorem adv_fits {e o m st since a b st' since' p f k : Int} (h : Ok e o m) (hab : a ≤ b) (hf : fitsP e o m st since a) (ha : Adv e o m st since a b st' since' p f k) : fitsP e o m st' since' b := by
  rcases ha.law with ⟨s1, s2, s3, -⟩ | ⟨s1, -, s2, s3, -⟩ | ⟨s1, s2, s3, s4, s5, s6⟩ | ⟨s1, s2, s3, s4, s5⟩
  · rcases hf with hf | ⟨d1, d2, d3, d4⟩
    · omega
    · exact Or.inr ⟨s3 ▸ d1, by omega, by omega, Or.inr s2⟩
  · rcases hf with hf | ⟨d1, d2, d3, d4⟩
    · exact Or.inl ⟨s2, by omega⟩
    · omega
  · have n1 := next_le h.e1 hab s2
    have n2 := next_ge (t := a) h.e1 h.o0
    refine Or.inr ⟨s3 ▸ next_due h.e1, by omega, by omega, ?_⟩
    rcases s6 with s6 | s6
    · exact Or.inr s6.2.1
    · exact Or.inl ⟨s6.2.1, by omega⟩
  · rcases hf with hf | ⟨d1, d2, d3, d4⟩
    · omega
    · refine Or.inr ⟨s2 ▸ d1, by omega, by omega, ?_⟩
      rcases s5 with s5 | s5
      · exact Or.inr s5.2.1
      · exact Or.inl ⟨s5.2.1, by omega⟩

theorem parts {e o m st since a b c x1 x2 r1 r2 r3 y1 y2 t1 t2 t3 z1 z2 u1 u2 u3 : Int} (h : Ok e o m) (hab : a ≤ b) (hbc : b ≤ c) (hf : fitsP e o m st since a)
    (h1 : Adv e o m st since a b x1 x2 r1 r2 r3) (h2 : Adv e o m x1 x2 b c y1 y2 t1 t2 t3) (h3 : Adv e o m st since a c z1 z2 u1 u2 u3) :
    z1 = y1 ∧ z2 = y2 ∧ u3 = r3 + t3 ∧ 0 ≤ r3 ∧ 0 ≤ t3 ∧ r3 ≤ upTo e o b ∧ t3 ≤ upTo e o c ∧ ¬ (0 ≤ r1 ∧ 0 ≤ t1) ∧ ¬ (0 ≤ r2 ∧ 0 ≤ t2) ∧ (if t1 < r1 then r1 else t1) = u1 ∧ (if t2 < r2 then r2 else t2) = u2 := by
  have n0 := next_ge (t := a) h.e1 h.o0
  have n1 := next_ge (t := b) h.e1 h.o0
  have m0 := up_le (o := o) h.e1 hab
  have m1 := up_le (o := o) h.e1 hbc
  have g0 := next_gt (o := o) (t := a) h.e1
  have g1 := next_gt (o := o) (t := b) h.e1
  have v0 := (upTo_spec (e := e) (o := o) (t := a) h.e1).u0
  have ns := fun k => next_same (e := e) (o := o) (a := a) (b := b) k
  have hm1 := h.m1
  have hs : st ≠ 0 → 0 ≤ since := fun k => by rcases hf with hf | hf <;> omega
  have l1 := h1.law
  have l2 := h2.law
  have l3 := h3.law
  clear h1 h2 h3 hf
  generalize upTo e o a = A at *
  generalize upTo e o b = B at *
  generalize upTo e o c = C at *
  generalize next e o a = NA at *
  generalize next e o b = NB at *
  rcases (show B - A = 0 ∨ B - A ≠ 0 by omega) with hBA | hBA
  · have hn := ns hBA
    clear ns
    rcases l1 with l1 | l1 | l1 | l1 <;> rcases l2 with l2 | l2 | l2 | l2 <;> rcases l3 with l3 | l3 | l3 | l3 <;> first | (exfalso; omega) | (refine ⟨by omega, by omega, by omega, by omega, by omega, by omega, by omega, by omega, by omega, ?_, ?_⟩ <;> (split <;> omega))
  · clear ns
    rcases l1 with l1 | l1 | l1 | l1 <;> rcases l2 with l2 | l2 | l2 | l2 <;> rcases l3 with l3 | l3 | l3 | l3 <;> first | (exfalso; omega) | (refine ⟨by omega, by omega, by omega, by omega, by omega, by omega, by omega, by omega, by omega, ?_, ?_⟩ <;> (split <;> omega))
end Go.Proofs.Ytpgdogcgdlijeaa.Du
