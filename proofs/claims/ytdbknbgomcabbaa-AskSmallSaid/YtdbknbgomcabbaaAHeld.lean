/- An Ask and a kept tally of it, for regions that draw their order around calls. Conditions: none beyond each theorem's own premises. -/
import Derived.Test.YtdbknbgomcabbaaALaws
import Derived.Deep.RegionHeld3
namespace Go.Proofs.Ytdbknbgomcabbaa
open Go.RowKit

/-- A tally's cells. -/
def tcells (s : Ak.St) : Array Value := #[.int .i64 s.asked, .int .i64 s.good, .int .i64 s.bad, .int .i64 s.failed, .int .i64 s.skipped, .int .i64 s.late]

/-- Behind a call that began in world W0: the Ask at b is in state s, a tally of t lies at c. -/
structure Held (W0 : World) (b : Nat) (N : Int) (s : Ak.St) (c : Nat) (t : Ak.St) (W : World) : Prop where
  run : Run W0 W b N s
  tal : Has W c 30 (tcells t)
  ne : b ≠ c
  low : W0.heap.size ≤ c
section
variable {W0 W W' : World} {b c : Nat} {N M : Int} {s s' t : Ak.St}
theorem Held.drew (h : Held W0 b N s c t W) : Held W0 b N s c t W.drew := ⟨h.run.drew_, h.tal.drew, h.ne, h.low⟩
theorem Held.drewN (h : Held W0 b N s c t W) (n : Nat) : Held W0 b N s c t (W.drewN n) := ⟨h.run.drewN_ n, h.tal, h.ne, h.low⟩
theorem Held.alloc (h : Held W0 b N s c t W) (o : Obj) : Held W0 b N s c t (W.alloc o) := ⟨h.run.alloc_ o, h.tal.alloc o, h.ne, h.low⟩
theorem Held.on (h : Held W0 b N s c t W) (k : Below W.heap.size W W') : Held W0 b N s c t W' := ⟨h.run.on_ k, h.tal.below k (Has.lt h.tal), h.ne, h.low⟩
theorem Held.to (h : Held W0 b N s c t W) (hr : Run W0 W' b M s') (k : W.grownBy W' (some b)) : Held W0 b M s' c t W' := ⟨hr, h.tal.grown k (fun e => h.ne (by injection e with e; exact e.symm)), h.ne, h.low⟩
theorem Held.made (h : Run W0 W b N s) : Held W0 b N s W.heap.size t (W.alloc (.cells (tcells t) 30)) := ⟨h.alloc_ _, Has.made _ _ _, by have := Has.lt h.at_; omega, h.below.size⟩
theorem Held.bump (h : Held W0 b N s c t W) : Held W0 b N s c { t with failed := t.failed + 1 } (W.setCell ⟨c, 3, none⟩ (.int .i64 (t.failed + 1))) :=
  ⟨⟨h.run.base, h.run.below.setCell h.low _, Has.there h.run.at_ (p := ⟨c, 3, none⟩) h.ne _, h.run.ok⟩, h.tal.here 3 _, h.ne, h.low⟩
theorem Held.size (h : Held W0 b N s c t W) : b < W.heap.size ∧ c < W.heap.size := ⟨Has.lt h.run.at_, Has.lt h.tal⟩
theorem Held.all (h : Held W0 b N s c t W) : Held W0 b N s c t W ∧ W.cell? ⟨c, 0, none⟩ = some (.int .i64 t.asked) ∧ W.cell? ⟨c, 1, none⟩ = some (.int .i64 t.good) ∧ W.cell? ⟨c, 2, none⟩ = some (.int .i64 t.bad) ∧ W.cell? ⟨c, 3, none⟩ = some (.int .i64 t.failed) ∧ W.cell? ⟨c, 4, none⟩ = some (.int .i64 t.skipped) ∧ W.cell? ⟨c, 5, none⟩ = some (.int .i64 t.late) :=
  ⟨h, h.tal.cell 0, h.tal.cell 1, h.tal.cell 2, h.tal.cell 3, h.tal.cell 4, h.tal.cell 5⟩

theorem counts_held (h : Held W0 b N s c t W) :
    Calls Try.prog 19 #[.pointer (some ⟨b, 0, none⟩)] W fun e w' => e = .returned (.agg #[.int .i64 s.asked, .int .i64 s.good, .int .i64 s.bad, .int .i64 s.failed, .int .i64 s.skipped, .int .i64 s.late]) ∧ Held W0 b N s c t w' :=
  (counts_run h.run).mono fun _ _ ⟨he, _, k⟩ => ⟨he, h.on k⟩
theorem counts_ex (h : Run W0 W b N s) :
    Calls Try.prog 19 #[.pointer (some ⟨b, 0, none⟩)] W fun e w' => e = .returned (.agg #[.int .i64 s.asked, .int .i64 s.good, .int .i64 s.bad, .int .i64 s.failed, .int .i64 s.skipped, .int .i64 s.late]) ∧ Run W0 w' b N s ∧ Below W.heap.size W w' := counts_run h
theorem clock_held (h : Held W0 b N s c t W) :
    Calls Try.prog 16 #[.pointer (some ⟨b, 0, none⟩)] W fun e w' => e = .returned (.int .i64 s.clock) ∧ Held W0 b N s c t w' :=
  (clock_run h.run).mono fun _ _ ⟨he, _, k⟩ => ⟨he, h.on k⟩
theorem open_held (h : Held W0 b N s c t W) :
    Calls Try.prog 14 #[.pointer (some ⟨b, 0, none⟩)] W fun e w' => e = .returned (.tuple #[.int .i64 s.opn, .int .i64 s.since]) ∧ Held W0 b N s c t w' :=
  (open_run h.run).mono fun _ _ ⟨he, _, k⟩ => ⟨he, h.on k⟩
theorem next_held (h : Held W0 b N s c t W) :
    Calls Try.prog 15 #[.pointer (some ⟨b, 0, none⟩)] W fun e w' => e = .returned (.tuple #[.int .i64 (Ak.next s), .bool (Ak.hasNext s)]) ∧ Held W0 b N s c t w' :=
  (next_run h.run).mono fun _ _ ⟨he, _, k⟩ => ⟨he, h.on k⟩
theorem move_held (now : Int) (h : Held W0 b N s c t W) (hN : N ≤ 1000000000) :
    Calls Try.prog 13 #[.pointer (some ⟨b, 0, none⟩), .int .i64 now] W fun e w' => e = .returned (.tuple #[.int .i64 (Ak.number s now), .int .i64 (Ak.moveErr s now)]) ∧ Held W0 b (N + 1) (Ak.move s now) c t w' :=
  (move_run now h.run hN).mono fun _ _ ⟨he, k, g⟩ => ⟨he, h.to k g⟩
theorem answer_held (n : Int) (g : Bool) (h : Held W0 b N s c t W) (hN : N ≤ 1000000000) :
    Calls Try.prog 17 #[.pointer (some ⟨b, 0, none⟩), .int .i64 n, .bool g] W fun e w' => e = .returned (.bool (Ak.takes s n)) ∧ Held W0 b (N + 1) (Ak.answer s n g) c t w' :=
  (answer_run n g h.run hN).mono fun _ _ ⟨he, k, g⟩ => ⟨he, h.to k g⟩
theorem answer_zero (n : Int) (g : Bool) (ho : s.opn = 0) (h : Held W0 b N s c t W) (hN : N ≤ 1000000000) :
    Calls Try.prog 17 #[.pointer (some ⟨b, 0, none⟩), .int .i64 n, .bool g] W fun e w' => e = .returned (.bool false) ∧ Held W0 b (N + 1) { s with late := s.late + 1 } c t w' := by
  have ht : Ak.takes s n = false := by
    unfold Ak.takes
    rcases (show n ≠ s.opn ∨ n = 0 by omega) with h | h
    · rw [decide_eq_false h]; rfl
    · rw [h]; simp
  have e : Ak.answer s n g = { s with late := s.late + 1 } := by unfold Ak.answer; rw [ht]; rfl
  have := answer_held n g h hN
  rw [ht, e] at this
  exact this
theorem answer_took (n : Int) (g : Bool) (ht : Ak.takes s n = true) (h : Held W0 b N s c t W) (hN : N ≤ 1000000000) :
    Calls Try.prog 17 #[.pointer (some ⟨b, 0, none⟩), .int .i64 n, .bool g] W fun e w' => e = .returned (.bool true) ∧ ∃ s' : Ak.St, s'.opn = 0 ∧ Held W0 b (N + 1) s' c t w' := by
  have := answer_held n g h hN
  rw [ht] at this
  exact this.mono fun _ _ ⟨he, k⟩ => ⟨he, _, by unfold Ak.answer; rw [if_pos ht], k⟩
theorem stop_held (h : Held W0 b N s c t W) (hN : N ≤ 1000000000) :
    Calls Try.prog 18 #[.pointer (some ⟨b, 0, none⟩)] W fun e w' => e = .returned (.bool (Ak.fails s)) ∧ Held W0 b (N + 1) (Ak.stop s) c t w' :=
  (stop_run h.run hN).mono fun _ _ ⟨he, k, g⟩ => ⟨he, h.to k g⟩
end

theorem Ak.move_bad {s : Ak.St} {t : Int} (h : t < s.clock ∨ 281474976710656 < t) : Ak.moveErr s t = 320 ∧ Ak.move s t = s ∧ Ak.number s t = 0 := by
  have hk : Ak.moveOk s t = false := by
    unfold Ak.moveOk
    rcases h with h | h
    · rw [decide_eq_true h]; rfl
    · rw [decide_eq_true h, Bool.or_true]; rfl
  unfold Ak.moveErr Ak.move Ak.number Ak.opens
  rw [hk]
  exact ⟨rfl, rfl, rfl⟩
end Go.Proofs.Ytdbknbgomcabbaa
