/- The functions of due, walked (1): tick, Right, upTo, Is, Next, Last, Count. Conditions: none beyond each theorem's own premises. -/
import Derived.Test.YtpgdogcgdlijeaaRows
import Derived.Test.YtpgdogcgdlijeaaMem
import Derived.Test.YtpgdogcgdlijeaaDLaws
import Derived.WalkSpells
import Derived.WalkLawsBesides
import Derived.BigQuiet
import Derived.IntWalk
import Derived.Outline
import Derived.Lib.Hide
namespace Go.Proofs.Ytpgdogcgdlijeaa
open Go.RowKit

theorem tick_any (t : Int) (w : World) :
    Calls Try.prog 34 #[.int .i64 t] w fun x w' => x = .returned (.bool (Du.tick t)) ∧ w' = w := by
  unfold Du.tick
  rcases h0 : decide (0 ≤ t) with _ | _
  · go_enter Try.func34, Try.ntmps34
    go_wp2
    go_ret
    exact ⟨rfl, rfl⟩
  · rcases h1 : decide (t ≤ 281474976710656) with _ | _
    · go_enter Try.func34, Try.ntmps34
      go_wp2
      go_ret
      exact ⟨rfl, rfl⟩
    · go_enter Try.func34, Try.ntmps34
      go_wp2
      go_ret
      exact ⟨rfl, rfl⟩

theorem right_any (e o m : Int) (w : World) :
    Calls Try.prog 25 #[.agg #[.int .i64 e, .int .i64 o, .int .i64 m]] w fun x w' => x = .returned (.bool (Du.right e o m)) ∧ Below w.heap.size w w' := by
  unfold Du.right
  rcases h0 : decide (1 ≤ e) with _ | _
  · go_enter Try.func25, Try.ntmps25
    go_wp2
    go_ret
    exact ⟨rfl, (Below.refl _ _).alloc (Nat.le_refl _) _⟩
  · rcases h1 : decide (e ≤ 1099511627776) with _ | _
    · go_enter Try.func25, Try.ntmps25
      go_wp2
      go_ret
      exact ⟨rfl, (Below.refl _ _).alloc (Nat.le_refl _) _⟩
    · rcases h2 : decide (0 ≤ o) with _ | _
      · go_enter Try.func25, Try.ntmps25
        go_wp2
        go_ret
        exact ⟨rfl, (Below.refl _ _).alloc (Nat.le_refl _) _⟩
      · rcases h3 : decide (o < e) with _ | _
        · go_enter Try.func25, Try.ntmps25
          go_wp2
          go_ret
          exact ⟨rfl, (Below.refl _ _).alloc (Nat.le_refl _) _⟩
        · rcases h4 : decide (1 ≤ m) with _ | _
          · go_enter Try.func25, Try.ntmps25
            go_wp2
            go_ret
            exact ⟨rfl, (Below.refl _ _).alloc (Nat.le_refl _) _⟩
          · rcases h5 : decide (m ≤ e) with _ | _
            · go_enter Try.func25, Try.ntmps25
              go_wp2
              go_ret
              exact ⟨rfl, (Below.refl _ _).alloc (Nat.le_refl _) _⟩
            · go_enter Try.func25, Try.ntmps25
              go_wp2
              go_ret
              exact ⟨rfl, (Below.refl _ _).alloc (Nat.le_refl _) _⟩

theorem upTo_any (e o m t : Int) (w : World) (he : 1 ≤ e) (h0 : 0 ≤ o) (h1 : 0 ≤ t) (h2 : t ≤ 281474976710656) :
    Calls Try.prog 37 #[.agg #[.int .i64 e, .int .i64 o, .int .i64 m], .int .i64 t] w fun x w' => x = .returned (.int .i64 (Du.upTo e o t)) ∧ Below w.heap.size w w' := by
  have hu := Lib.hid (show Du.upTo e o t = if t < o then 0 else (t - o) / e + 1 from rfl)
  rcases (show t < o ∨ o ≤ t by omega) with h | h
  · have hd : decide (t < o) = true := decide_eq_true h
    go_enter Try.func37, Try.ntmps37
    go_wp2
    go_ret
    rw [hu.out, if_pos h]
    exact ⟨rfl, (Below.refl _ _).alloc (Nat.le_refl _) _⟩
  · have hd : decide (t < o) = false := decide_eq_false (by omega)
    have hq : (t - o).tdiv e = (t - o) / e := Int.tdiv_eq_ediv_of_nonneg (by omega)
    have q0 : 0 ≤ (t - o) / e := Int.ediv_nonneg (by omega) (by omega)
    have q1 : (t - o) / e ≤ t - o := Int.ediv_le_self _ (by omega)
    have hu2 := Lib.hid (show Du.upTo e o t = (t - o) / e + 1 by rw [hu.out, if_neg (by omega)])
    generalize (t - o) / e = q at *
    have g1 : IntKind.i64.wrap (t - o) = t - o := IntWalk.i64_in _ (by omega)
    have g2 : IntKind.i64.wrap q = q := IntWalk.i64_in _ (by omega)
    have g3 : IntKind.i64.wrap (q + 1) = q + 1 := IntWalk.i64_in _ (by omega)
    go_enter Try.func37, Try.ntmps37
    go_wp2
    go_ret
    rw [hu2.out]
    exact ⟨rfl, (Below.refl _ _).alloc (Nat.le_refl _) _⟩
end Go.Proofs.Ytpgdogcgdlijeaa
