/- The methods of an Ask, walked (5): Answer. Conditions: the receiver is an Ask that was made, its numbers in bounds. -/
import Derived.Test.YtdbknbgomcabbaaA4
namespace Go.Proofs.Ytdbknbgomcabbaa
open Go.RowKit

set_option maxHeartbeats 1000000 in
theorem answer_any (b : Nat) (N : Int) (s : Ak.St) (n : Int) (g : Bool) (w : World) (hb : At w b s) (hs : Ak.Ok N s) (hN : N ≤ 1000000000) :
    Calls Try.prog 17 #[.pointer (some ⟨b, 0, none⟩), .int .i64 n, .bool g] w fun e w' => e = .returned (.bool (Ak.takes s n)) ∧ To w w' b (Ak.answer s n g) := by
  have c6 : w.cell? ⟨b, 6, none⟩ = some (.bool true) := Has.cell hb 6
  have hlt := Has.lt hb
  have hlt1 : b < w.heap.size + 1 := by omega
  have hlt2 : b < w.heap.size + 1 + 1 := by omega
  have hlt3 : b < w.heap.size + 1 + 1 + 1 := by omega
  have l0 := hs.l0
  have l1 := hs.l1
  have p0 := hs.g0
  have p1 := hs.g1
  have q0 := hs.b0
  have q1 := hs.b1
  obtain ⟨f0, f1, f2, f3⟩ := four_new (w := w) #[.pointer (some ⟨b, 0, none⟩)] #[.int .i64 n] #[.bool g] #[.bool false] 28 3 4 4
  have hbl : Below w.heap.size w ((((w.alloc (.cells #[.pointer (some ⟨b, 0, none⟩)] 28)).alloc (.cells #[.int .i64 n] 3)).alloc (.cells #[.bool g] 4)).alloc (.cells #[.bool false] 4)) :=
    ((((Below.refl _ _).alloc (Nat.le_refl _) _).alloc (by simp) _).alloc (by simp; omega) _).alloc (by simp; omega) _
  have hb4 := Has.below (t := 32) hb hbl hlt
  have HH : Hid (((n == s.opn) = false ∧ Ak.takes s n = false) ∨ ((n == s.opn) = true ∧ decide (0 < n) = false ∧ Ak.takes s n = false) ∨ ((n == s.opn) = true ∧ decide (0 < n) = true ∧ Ak.takes s n = true)) := by
    show _ ∨ _
    unfold Ak.takes
    by_cases h1 : n = s.opn
    · right
      by_cases h2 : 0 < n
      · right; exact ⟨by simpa using h1, by simpa using h2, by rw [decide_eq_true h1, decide_eq_true h2]; rfl⟩
      · left; exact ⟨by simpa using h1, by simpa using h2, by rw [decide_eq_true h1, decide_eq_false h2]; rfl⟩
    · left; exact ⟨by simpa using h1, by rw [decide_eq_false h1]; rfl⟩
  go_enter Try.func17, Try.ntmps17
  go_wp2_with (first | (go_at_call 25; go_in) | (go_at_call 30; go_in))
  obtain ⟨W2, hW2⟩ : ∃ W2, W2 = (((w.alloc (.cells #[.pointer (some ⟨b, 0, none⟩)] 28)).alloc (.cells #[.int .i64 n] 3)).alloc (.cells #[.bool g] 4)).alloc (.cells #[.bool false] 4) := ⟨_, rfl⟩
  rw [← hW2] at f0 f1 f2 f3 hbl hb4
  rw [← hW2]
  have y0 : W2.cell? ⟨w.heap.size, 0, none⟩ = some (.pointer (some ⟨b, 0, none⟩)) := f0.cell 0
  have y1 : W2.cell? ⟨w.heap.size + 1, 0, none⟩ = some (.int .i64 n) := f1.cell 0
  have y2 : W2.cell? ⟨w.heap.size + 1 + 1, 0, none⟩ = some (.bool g) := f2.cell 0
  have y3 : W2.cell? ⟨w.heap.size + 1 + 1 + 1, 0, none⟩ = some (.bool false) := f3.cell 0
  have z3 : W2.frozen? ⟨w.heap.size + 1 + 1 + 1, 0, none⟩ = false := f3.free 0
  have hc := Has.cell hb4
  have hf := Has.free hb4
  unfold cells at hc
  have n3 : ¬ b = w.heap.size + 1 + 1 + 1 := by omega
  have n0 : ¬ b = w.heap.size := by omega
  have n4 : ¬ w.heap.size + 1 + 1 + 1 = b := by omega
  have x11 := hc 11
  have HBL := Lib.hid hbl
  have HB4 := Lib.hid hb4
  clear hb hs f0 f1 f2 f3 hb4 hbl hW2 c6
  rcases HH.out with ⟨k1, k2⟩ | ⟨k1, k2, k3⟩ | ⟨k1, k2, k3⟩
  · have HE : Hid (Ak.takes s n = false ∧ Ak.answer s n g = { s with late := s.late + 1 }) := by show _ ∧ _; unfold Ak.answer; rw [k2]; exact ⟨rfl, rfl⟩
    clear k2
    go_region
    go_wp2
    first | go_end0 | refine bodyPost_ret (results_none rfl _ _ _) rfl ?_
    go_wp2
    go_ret
    have T0 : Turned w W2 b 32 (cells s) := Turned.since_ HBL.out (Turned.begin_ HB4.out)
    rw [HE.out.1, HE.out.2]
    exact ⟨rfl, Turned.conv_ (Turned.drew_ (Turned.here_ (T0.new_ hlt (w.heap.size + 1 + 1 + 1) 0 (by omega) _) 5 _)) rfl⟩
  · have HE : Hid (Ak.takes s n = false ∧ Ak.answer s n g = { s with late := s.late + 1 }) := by show _ ∧ _; unfold Ak.answer; rw [k3]; exact ⟨rfl, rfl⟩
    clear k3
    go_region
    go_wp2
    first | go_end0 | refine bodyPost_ret (results_none rfl _ _ _) rfl ?_
    go_wp2
    go_ret
    have T0 : Turned w W2 b 32 (cells s) := Turned.since_ HBL.out (Turned.begin_ HB4.out)
    rw [HE.out.1, HE.out.2]
    exact ⟨rfl, Turned.conv_ (Turned.drew_ (Turned.here_ (T0.new_ hlt (w.heap.size + 1 + 1 + 1) 0 (by omega) _) 5 _)) rfl⟩
  · cases g
    · have HE : Hid (Ak.takes s n = true ∧ Ak.answer s n false = { s with bad := s.bad + 1, opn := 0, since := 0 }) := by show _ ∧ _; unfold Ak.answer; rw [k3]; exact ⟨rfl, rfl⟩
      clear k3
      go_region
      go_wp2
      go_region
      go_wp2
      first | go_end0 | refine bodyPost_ret (results_none rfl _ _ _) rfl ?_
      go_wp2
      go_ret
      have T0 : Turned w W2 b 32 (cells s) := Turned.since_ HBL.out (Turned.begin_ HB4.out)
      rw [HE.out.1, HE.out.2]
      exact ⟨rfl, Turned.conv_ (Turned.drew_ (Turned.drew_ (Turned.here_ (Turned.here_ (Turned.here_ (T0.new_ hlt (w.heap.size + 1 + 1 + 1) 0 (by omega) _) 2 _) 11 _) 12 _))) rfl⟩
    · have HE : Hid (Ak.takes s n = true ∧ Ak.answer s n true = { s with good := s.good + 1, opn := 0, since := 0 }) := by show _ ∧ _; unfold Ak.answer; rw [k3]; exact ⟨rfl, rfl⟩
      clear k3
      go_region
      go_wp2
      go_region
      go_wp2
      first | go_end0 | refine bodyPost_ret (results_none rfl _ _ _) rfl ?_
      go_wp2
      go_ret
      have T0 : Turned w W2 b 32 (cells s) := Turned.since_ HBL.out (Turned.begin_ HB4.out)
      rw [HE.out.1, HE.out.2]
      exact ⟨rfl, Turned.conv_ (Turned.drew_ (Turned.drew_ (Turned.here_ (Turned.here_ (Turned.here_ (T0.new_ hlt (w.heap.size + 1 + 1 + 1) 0 (by omega) _) 1 _) 11 _) 12 _))) rfl⟩
end Go.Proofs.Ytdbknbgomcabbaa
