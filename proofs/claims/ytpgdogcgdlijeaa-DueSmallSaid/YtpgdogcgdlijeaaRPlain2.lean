/- Advance's outcome at the start of the reference's loop, its bounds, and that it is one. No program is named here. Conditions: a right plan, a phase that fits, ticks in order. -/
import Derived.Test.YtpgdogcgdlijeaaRPlain
namespace Go.Proofs.Ytpgdogcgdlijeaa.Du

theorem adv_start {e o m st n a : Int} (hf : fitsP e o m st n a) : Adv e o m st n a a st n (-1) (-1) 0 := by
  rcases hf with ⟨rfl, rfl⟩ | ⟨-, h2, -, ⟨rfl, h3⟩ | rfl⟩
  · exact ⟨Or.inr (Or.inl ⟨rfl, by omega, rfl, rfl, rfl, rfl, rfl⟩)⟩
  · exact ⟨Or.inr (Or.inr (Or.inr ⟨rfl, rfl, rfl, by omega, Or.inr ⟨h3, rfl, rfl⟩⟩))⟩
  · exact ⟨Or.inl ⟨rfl, rfl, rfl, rfl, rfl, by omega⟩⟩

theorem adv_bounds {e o m st n a t st' n' b f k : Int} (hk : Ok e o m) (a0 : 0 ≤ a) (hat : a ≤ t) (t1 : t ≤ 281474976710656) (hf : fitsP e o m st n a) (h : Adv e o m st n a t st' n' b f k) :
    0 ≤ n' ∧ n' ≤ 281474976710656 ∧ 0 ≤ k ∧ k ≤ 281474976710657 := by
  have hm := up_le (o := o) hk.e1 hat
  have hb := up_bounds hk.e1 hk.o0 t1 (upTo_spec (o := o) (t := t) hk.e1)
  have hu := (upTo_spec (o := o) (t := a) hk.e1).u0
  have hg := next_ge (t := a) hk.e1 hk.o0
  have hn : 0 ≤ n ∧ n ≤ a := by
    rcases hf with h | ⟨-, h2, h3, -⟩ <;> omega
  rcases h.law with l | l | l | l
  · omega
  · omega
  · have := next_le (o := o) hk.e1 hat l.2.1
    omega
  · omega

/-- There is just one outcome. -/
theorem adv_one {e o m st n a t s1 n1 b1 f1 k1 s2 n2 b2 f2 k2 : Int} (h : Adv e o m st n a t s1 n1 b1 f1 k1) (g : Adv e o m st n a t s2 n2 b2 f2 k2) :
    s1 = s2 ∧ n1 = n2 ∧ b1 = b2 ∧ f1 = f2 ∧ k1 = k2 := by
  have l := h.law
  have r := g.law
  clear h g
  generalize upTo e o t - upTo e o a = U at *
  generalize next e o a = D at *
  rcases l with l | l | l | l <;> rcases r with r | r | r | r <;> first | (exfalso; omega) | (refine ⟨?_, ?_, ?_, ?_, ?_⟩ <;> omega)
end Go.Proofs.Ytpgdogcgdlijeaa.Du
