/- The methods of an Ask, walked (1): due, fail, New, Open, Clock, Counts. Conditions: the receiver is an Ask that was made, its numbers in bounds. -/
import Derived.Test.YtdbknbgomcabbaaRows
import Derived.Test.YtdbknbgomcabbaaMem
import Derived.Test.YtdbknbgomcabbaaAPlain
import Derived.WalkSpells
import Derived.WalkLawsBesides
import Derived.BigQuiet
import Derived.IntWalk
import Derived.Outline
import Derived.Lib.Hide
namespace Go.Proofs.Ytdbknbgomcabbaa
open Go.RowKit

theorem Has.drewN_ {w : World} {g : Nat} {t : TypeId} {cs : Array Value} (h : Has w g t cs) (n : Nat) : Has (w.drewN n) g t cs := h

def cells (s : Ak.St) : Array Value :=
  #[.int .i64 s.asked, .int .i64 s.good, .int .i64 s.bad, .int .i64 s.failed, .int .i64 s.skipped, .int .i64 s.late, .bool true, .bool s.stopped, .int .i64 s.start, .int .i64 s.width, .int .i64 s.clock, .int .i64 s.opn, .int .i64 s.since]

/-- In world w the Ask at block b is in state s. -/
def At (w : World) (b : Nat) (s : Ak.St) : Prop := Has w b 32 (cells s)
/-- Only the Ask at b has turned, and what is new; it is in state s then. -/
def To (w w' : World) (b : Nat) (s : Ak.St) : Prop := Turned w w' b 32 (cells s)

set_option maxHeartbeats 400000 in
theorem due_cells (b : Nat) (start width now : Int) (w : World) (c8 : w.cell? ⟨b, 8, none⟩ = some (.int .i64 start)) (c9 : w.cell? ⟨b, 9, none⟩ = some (.int .i64 width)) (hw : 1 ≤ width) (hw2 : width ≤ 1099511627776) (h0 : 0 ≤ start) (hn : start ≤ now) (hn2 : now ≤ 281474976710656) :
    Calls Try.prog 27 #[.pointer (some ⟨b, 0, none⟩), .int .i64 now] w fun e w' => e = .returned (.int .i64 (Ak.dueOf start width now)) ∧ ∃ n, w' = w.drewN n := by
  have HE : Hid (Ak.dueOf start width now = (now - start) / width) := by show _ = _; rfl
  have h1 : IntKind.i64.wrap (now - start) = now - start := IntWalk.i64_in _ (by omega)
  go_enter Try.func27, Try.ntmps27
  go_wp2
  go_quiet (fail)
  go_wp2
  go_ret
  exact ⟨by rw [HE.out]; rfl, _, rfl⟩

theorem due_any (b : Nat) (s : Ak.St) (now : Int) (w : World) (hb : At w b s) (hw : 1 ≤ s.width) (hw2 : s.width ≤ 1099511627776) (h0 : 0 ≤ s.start) (hn : s.start ≤ now) (hn2 : now ≤ 281474976710656) :
    Calls Try.prog 27 #[.pointer (some ⟨b, 0, none⟩), .int .i64 now] w fun e w' => e = .returned (.int .i64 (Ak.due s now)) ∧ ∃ n, w' = w.drewN n :=
  due_cells b s.start s.width now w (Has.cell hb 8) (Has.cell hb 9) hw hw2 h0 hn hn2

theorem fail_any (b : Nat) (s : Ak.St) (w : World) (hb : At w b s) (f0 : 0 ≤ s.failed) (f1 : s.failed ≤ 1000000000) :
    Calls Try.prog 28 #[.pointer (some ⟨b, 0, none⟩)] w fun e w' => e = .returned (.bool (Ak.fails s)) ∧ To w w' b (Ak.fail s) := by
  have hc := Has.cell hb
  have hf := Has.free hb
  unfold cells at hc
  have H := Lib.hid hb
  clear hb
  by_cases ho : s.opn = 0
  · have HE : Hid (Ak.fails s = false ∧ Ak.fail s = s) := by show _ ∧ _; unfold Ak.fails Ak.fail; rw [if_pos ho, decide_eq_true ho]; exact ⟨rfl, rfl⟩
    have ho' : (s.opn == 0) = true := by simpa using ho
    clear ho
    go_enter Try.func28, Try.ntmps28
    go_wp2
    go_ret
    rw [HE.out.1, HE.out.2]
    exact ⟨rfl, Turned.begin_ H.out⟩
  · have HE : Hid (Ak.fails s = true ∧ Ak.fail s = { s with opn := 0, since := 0, failed := s.failed + 1 }) := by show _ ∧ _; unfold Ak.fails Ak.fail; rw [if_neg ho, decide_eq_false ho]; exact ⟨rfl, rfl⟩
    have ho' : (s.opn == 0) = false := by simpa using ho
    clear ho
    go_enter Try.func28, Try.ntmps28
    go_wp2
    go_ret
    rw [HE.out.1, HE.out.2]
    exact ⟨rfl, Turned.conv_ (((Turned.here_ (Turned.begin_ H.out) 11 _).here_ 12 _).here_ 3 _) rfl⟩

theorem new_yes (start width : Int) (w : World) (h0 : 0 ≤ start) (h1 : start ≤ 281474976710656) (h2 : 1 ≤ width) (h3 : width ≤ 1099511627776) :
    Calls Try.prog 21 #[.int .i64 start, .int .i64 width] w fun e w' => e = .returned (.tuple #[.pointer (some ⟨w.heap.size, 0, none⟩), .int .i64 0]) ∧ w.alloc (.cells (cells (Ak.fresh start width)) 32) = w' := by
  have g0 : ¬ start < 0 := by omega
  have g1 : ¬ 281474976710656 < start := by omega
  have g2 : ¬ width < 1 := by omega
  have g3 : ¬ 1099511627776 < width := by omega
  go_enter Try.func21, Try.ntmps21
  go_wp2
  go_ret2
  exact ⟨rfl, rfl⟩

theorem new_no (start width : Int) (w : World) (h : start < 0 ∨ 281474976710656 < start ∨ width < 1 ∨ 1099511627776 < width) :
    Calls Try.prog 21 #[.int .i64 start, .int .i64 width] w fun e w' => e = .returned (.tuple #[.pointer none, .int .i64 2]) ∧ w = w' := by
  by_cases g0 : start < 0
  · go_enter Try.func21, Try.ntmps21
    go_wp2
    go_ret2
    exact ⟨rfl, rfl⟩
  · by_cases g1 : 281474976710656 < start
    · go_enter Try.func21, Try.ntmps21
      go_wp2
      go_ret2
      exact ⟨rfl, rfl⟩
    · by_cases g2 : width < 1
      · go_enter Try.func21, Try.ntmps21
        go_wp2
        go_ret2
        exact ⟨rfl, rfl⟩
      · have g3 : 1099511627776 < width := by omega
        go_enter Try.func21, Try.ntmps21
        go_wp2
        go_ret2
        exact ⟨rfl, rfl⟩

theorem open_any (b : Nat) (s : Ak.St) (w : World) (hb : At w b s) :
    Calls Try.prog 14 #[.pointer (some ⟨b, 0, none⟩)] w fun e w' => e = .returned (.tuple #[.int .i64 s.opn, .int .i64 s.since]) ∧ Below w.heap.size w w' := by
  have hc := Has.cell hb
  unfold cells at hc
  clear hb
  go_enter Try.func14, Try.ntmps14
  go_wp2
  go_quiet (fail)
  go_wp2
  go_ret2
  exact ⟨rfl, below_drewN (Below.refl _ _) _⟩

theorem clock_any (b : Nat) (s : Ak.St) (w : World) (hb : At w b s) :
    Calls Try.prog 16 #[.pointer (some ⟨b, 0, none⟩)] w fun e w' => e = .returned (.int .i64 s.clock) ∧ Below w.heap.size w w' := by
  have hc := Has.cell hb
  unfold cells at hc
  clear hb
  go_enter Try.func16, Try.ntmps16
  go_wp2
  go_ret
  exact ⟨rfl, Below.refl _ _⟩

/-- A tally as a value. -/
def tally (s : Ak.St) : Value := .agg #[.int .i64 s.asked, .int .i64 s.good, .int .i64 s.bad, .int .i64 s.failed, .int .i64 s.skipped, .int .i64 s.late]

theorem counts_any (b : Nat) (s : Ak.St) (w : World) (hb : At w b s) :
    Calls Try.prog 19 #[.pointer (some ⟨b, 0, none⟩)] w fun e w' => e = .returned (tally s) ∧ Below w.heap.size w w' := by
  have hc := Has.cell hb
  have hlt := Has.lt hb
  unfold cells at hc
  clear hb
  go_enter Try.func19, Try.ntmps19
  go_wp2
  exact bodyPost_ret (v := .agg #[.int .i64 s.asked, .int .i64 s.good, .int .i64 s.bad, .int .i64 s.failed, .int .i64 s.skipped, .int .i64 s.late]) (by simp [results, Try.results19, go_sem]) rfl ⟨rfl, (by repeat (first | exact Below.refl _ _ | refine Below.drew ?_ | refine below_drewN ?_ _ | refine Below.alloc ?_ (by first | exact Nat.le_refl _ | (simp; done) | (simp; omega)) _ | refine Below.setCell ?_ (by first | exact Nat.le_refl _ | (simp; done) | (simp; omega)) _))⟩

end Go.Proofs.Ytdbknbgomcabbaa
