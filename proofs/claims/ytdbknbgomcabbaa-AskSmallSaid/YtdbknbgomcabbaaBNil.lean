/- The Ask's methods at a receiver that is nil, or was never made: each answers that there is none. Conditions: none beyond each theorem's own premises. -/
import Derived.Test.YtdbknbgomcabbaaRows
import Derived.Test.YtdbknbgomcabbaaMem
import Derived.WalkSpells
import Derived.WalkLawsBesides
import Derived.BigQuiet
import Derived.Outline
import Derived.Lib.Hide
namespace Go.Proofs.Ytdbknbgomcabbaa
open Go.RowKit

def noAsk : Array Value := #[.int .i64 0, .int .i64 0, .int .i64 0, .int .i64 0, .int .i64 0, .int .i64 0, .bool false, .bool false, .int .i64 0, .int .i64 0, .int .i64 0, .int .i64 0, .int .i64 0]

set_option maxHeartbeats 1000000 in
theorem rcv_do_nil (w : World) (K : Nat) (caps : Array Value) : Calls Try.prog 25 #[.pointer none, .func (.func K) #[] caps] w fun e w' => e = .returned (.bool false) ∧ w = w' := by
  go_enter Try.func25, Try.ntmps25
  go_wp2
  go_ret
  exact ⟨rfl, rfl⟩

set_option maxHeartbeats 1000000 in
theorem rcv_move_nil (w : World) : Calls Try.prog 13 #[.pointer none, .int .i64 0] w fun e w' => e = .returned (.tuple #[.int .i64 0, .int .i64 1]) ∧ Below w.heap.size w w' := by
  go_enter Try.func13, Try.ntmps13
  go_wp2_with (first | (go_at_call 25; refine (rcv_do_nil _ _ _).mono ?_; rintro e w9 ⟨rfl, rfl⟩))
  go_ret2
  exact ⟨rfl, (by repeat (first | refine Below.drew ?_ | refine Below.alloc ?_ (by first | exact Nat.le_refl _ | (simp; done) | (simp; omega)) _ | refine Below.setCell ?_ (by first | exact Nat.le_refl _ | (simp; done) | (simp; omega)) _ | exact Below.refl _ _))⟩

set_option maxHeartbeats 1000000 in
theorem rcv_open_nil (w : World) : Calls Try.prog 14 #[.pointer none] w fun e w' => e = .returned (.tuple #[.int .i64 0, .int .i64 0]) ∧ Below w.heap.size w w' := by
  go_enter Try.func14, Try.ntmps14
  go_wp2
  go_ret2
  exact ⟨rfl, (by repeat (first | refine Below.drew ?_ | refine Below.alloc ?_ (by first | exact Nat.le_refl _ | (simp; done) | (simp; omega)) _ | refine Below.setCell ?_ (by first | exact Nat.le_refl _ | (simp; done) | (simp; omega)) _ | exact Below.refl _ _))⟩

set_option maxHeartbeats 1000000 in
theorem rcv_next_nil (w : World) : Calls Try.prog 15 #[.pointer none] w fun e w' => e = .returned (.tuple #[.int .i64 0, .bool false]) ∧ Below w.heap.size w w' := by
  go_enter Try.func15, Try.ntmps15
  go_wp2_with (first | (go_at_call 25; refine (rcv_do_nil _ _ _).mono ?_; rintro e w9 ⟨rfl, rfl⟩))
  go_ret2
  exact ⟨rfl, (by repeat (first | refine Below.drew ?_ | refine Below.alloc ?_ (by first | exact Nat.le_refl _ | (simp; done) | (simp; omega)) _ | refine Below.setCell ?_ (by first | exact Nat.le_refl _ | (simp; done) | (simp; omega)) _ | exact Below.refl _ _))⟩

set_option maxHeartbeats 1000000 in
theorem rcv_clock_nil (w : World) : Calls Try.prog 16 #[.pointer none] w fun e w' => e = .returned (.int .i64 0) ∧ Below w.heap.size w w' := by
  go_enter Try.func16, Try.ntmps16
  go_wp2
  go_ret
  exact ⟨rfl, (by repeat (first | refine Below.drew ?_ | refine Below.alloc ?_ (by first | exact Nat.le_refl _ | (simp; done) | (simp; omega)) _ | refine Below.setCell ?_ (by first | exact Nat.le_refl _ | (simp; done) | (simp; omega)) _ | exact Below.refl _ _))⟩

set_option maxHeartbeats 1000000 in
theorem rcv_answer_nil (n : Int) (g : Bool) (w : World) : Calls Try.prog 17 #[.pointer none, .int .i64 n, .bool g] w fun e w' => e = .returned (.bool false) ∧ Below w.heap.size w w' := by
  go_enter Try.func17, Try.ntmps17
  go_wp2_with (first | (go_at_call 25; refine (rcv_do_nil _ _ _).mono ?_; rintro e w9 ⟨rfl, rfl⟩))
  go_ret
  exact ⟨rfl, (by repeat (first | refine Below.drew ?_ | refine Below.alloc ?_ (by first | exact Nat.le_refl _ | (simp; done) | (simp; omega)) _ | refine Below.setCell ?_ (by first | exact Nat.le_refl _ | (simp; done) | (simp; omega)) _ | exact Below.refl _ _))⟩

set_option maxHeartbeats 1000000 in
theorem rcv_stop_nil (w : World) : Calls Try.prog 18 #[.pointer none] w fun e w' => e = .returned (.bool false) ∧ Below w.heap.size w w' := by
  go_enter Try.func18, Try.ntmps18
  go_wp2_with (first | (go_at_call 25; refine (rcv_do_nil _ _ _).mono ?_; rintro e w9 ⟨rfl, rfl⟩))
  go_ret
  exact ⟨rfl, (by repeat (first | refine Below.drew ?_ | refine Below.alloc ?_ (by first | exact Nat.le_refl _ | (simp; done) | (simp; omega)) _ | refine Below.setCell ?_ (by first | exact Nat.le_refl _ | (simp; done) | (simp; omega)) _ | exact Below.refl _ _))⟩

set_option maxHeartbeats 1000000 in
theorem rcv_counts_nil (w : World) : Calls Try.prog 19 #[.pointer none] w fun e w' => e = .returned (.agg #[.int .i64 0, .int .i64 0, .int .i64 0, .int .i64 0, .int .i64 0, .int .i64 0]) ∧ Below w.heap.size w w' := by
  go_enter Try.func19, Try.ntmps19
  go_wp2
  exact bodyPost_ret (v := .agg #[.int .i64 0, .int .i64 0, .int .i64 0, .int .i64 0, .int .i64 0, .int .i64 0]) (by simp [results, Try.results19, go_sem]) rfl ⟨rfl, (by repeat (first | refine Below.drew ?_ | refine Below.alloc ?_ (by first | exact Nat.le_refl _ | (simp; done) | (simp; omega)) _ | refine Below.setCell ?_ (by first | exact Nat.le_refl _ | (simp; done) | (simp; omega)) _ | exact Below.refl _ _))⟩

set_option maxHeartbeats 1000000 in
theorem rcv_do_zero (w : World) (b : Nat) (hb : Has w b 32 noAsk) (K : Nat) (caps : Array Value) : Calls Try.prog 25 #[.pointer (some ⟨b, 0, none⟩), .func (.func K) #[] caps] w fun e w' => e = .returned (.bool false) ∧ w = w' := by
  have hc := hb.cell
  have hlt : b < w.heap.size := Has.lt hb
  unfold noAsk at hc
  clear hb
  go_enter Try.func25, Try.ntmps25
  go_wp2
  go_ret
  exact ⟨rfl, rfl⟩

set_option maxHeartbeats 1000000 in
theorem rcv_move_zero (w : World) (b : Nat) (hb : Has w b 32 noAsk) : Calls Try.prog 13 #[.pointer (some ⟨b, 0, none⟩), .int .i64 0] w fun e w' => e = .returned (.tuple #[.int .i64 0, .int .i64 1]) ∧ Below w.heap.size w w' := by
  have HB := Lib.hid hb
  have hc := hb.cell
  have hlt : b < w.heap.size := Has.lt hb
  unfold noAsk at hc
  clear hb
  go_enter Try.func13, Try.ntmps13
  go_wp2_with (first | (go_at_call 25; refine (rcv_do_zero _ b (by repeat (first | exact HB.out | refine Has.alloc ?_ _)) _ _).mono ?_; rintro e w9 ⟨rfl, rfl⟩))
  go_ret2
  exact ⟨rfl, (by repeat (first | refine Below.drew ?_ | refine Below.alloc ?_ (by first | exact Nat.le_refl _ | (simp; done) | (simp; omega)) _ | refine Below.setCell ?_ (by first | exact Nat.le_refl _ | (simp; done) | (simp; omega)) _ | exact Below.refl _ _))⟩

set_option maxHeartbeats 1000000 in
theorem rcv_open_zero (w : World) (b : Nat) (hb : Has w b 32 noAsk) : Calls Try.prog 14 #[.pointer (some ⟨b, 0, none⟩)] w fun e w' => e = .returned (.tuple #[.int .i64 0, .int .i64 0]) ∧ Below w.heap.size w w' := by
  have HB := Lib.hid hb
  have hc := hb.cell
  have hlt : b < w.heap.size := Has.lt hb
  unfold noAsk at hc
  clear hb
  go_enter Try.func14, Try.ntmps14
  go_wp2
  go_region
  all_goals
    go_wp2
    go_ret2
    exact ⟨rfl, (by repeat (first | refine Below.drew ?_ | refine Below.alloc ?_ (by first | exact Nat.le_refl _ | (simp; done) | (simp; omega)) _ | refine Below.setCell ?_ (by first | exact Nat.le_refl _ | (simp; done) | (simp; omega)) _ | exact Below.refl _ _))⟩

set_option maxHeartbeats 1000000 in
theorem rcv_next_zero (w : World) (b : Nat) (hb : Has w b 32 noAsk) : Calls Try.prog 15 #[.pointer (some ⟨b, 0, none⟩)] w fun e w' => e = .returned (.tuple #[.int .i64 0, .bool false]) ∧ Below w.heap.size w w' := by
  have HB := Lib.hid hb
  have hc := hb.cell
  have hlt : b < w.heap.size := Has.lt hb
  unfold noAsk at hc
  clear hb
  go_enter Try.func15, Try.ntmps15
  go_wp2_with (first | (go_at_call 25; refine (rcv_do_zero _ b (by repeat (first | exact HB.out | refine Has.alloc ?_ _)) _ _).mono ?_; rintro e w9 ⟨rfl, rfl⟩))
  go_ret2
  exact ⟨rfl, (by repeat (first | refine Below.drew ?_ | refine Below.alloc ?_ (by first | exact Nat.le_refl _ | (simp; done) | (simp; omega)) _ | refine Below.setCell ?_ (by first | exact Nat.le_refl _ | (simp; done) | (simp; omega)) _ | exact Below.refl _ _))⟩

set_option maxHeartbeats 1000000 in
theorem rcv_clock_zero (w : World) (b : Nat) (hb : Has w b 32 noAsk) : Calls Try.prog 16 #[.pointer (some ⟨b, 0, none⟩)] w fun e w' => e = .returned (.int .i64 0) ∧ Below w.heap.size w w' := by
  have HB := Lib.hid hb
  have hc := hb.cell
  have hlt : b < w.heap.size := Has.lt hb
  unfold noAsk at hc
  clear hb
  go_enter Try.func16, Try.ntmps16
  go_wp2
  go_ret
  exact ⟨rfl, (by repeat (first | refine Below.drew ?_ | refine Below.alloc ?_ (by first | exact Nat.le_refl _ | (simp; done) | (simp; omega)) _ | refine Below.setCell ?_ (by first | exact Nat.le_refl _ | (simp; done) | (simp; omega)) _ | exact Below.refl _ _))⟩

set_option maxHeartbeats 1000000 in
theorem rcv_answer_zero (n : Int) (g : Bool) (w : World) (b : Nat) (hb : Has w b 32 noAsk) : Calls Try.prog 17 #[.pointer (some ⟨b, 0, none⟩), .int .i64 n, .bool g] w fun e w' => e = .returned (.bool false) ∧ Below w.heap.size w w' := by
  have HB := Lib.hid hb
  have hc := hb.cell
  have hlt : b < w.heap.size := Has.lt hb
  unfold noAsk at hc
  clear hb
  go_enter Try.func17, Try.ntmps17
  go_wp2_with (first | (go_at_call 25; refine (rcv_do_zero _ b (by repeat (first | exact HB.out | refine Has.alloc ?_ _)) _ _).mono ?_; rintro e w9 ⟨rfl, rfl⟩))
  go_ret
  exact ⟨rfl, (by repeat (first | refine Below.drew ?_ | refine Below.alloc ?_ (by first | exact Nat.le_refl _ | (simp; done) | (simp; omega)) _ | refine Below.setCell ?_ (by first | exact Nat.le_refl _ | (simp; done) | (simp; omega)) _ | exact Below.refl _ _))⟩

set_option maxHeartbeats 1000000 in
theorem rcv_stop_zero (w : World) (b : Nat) (hb : Has w b 32 noAsk) : Calls Try.prog 18 #[.pointer (some ⟨b, 0, none⟩)] w fun e w' => e = .returned (.bool false) ∧ Below w.heap.size w w' := by
  have HB := Lib.hid hb
  have hc := hb.cell
  have hlt : b < w.heap.size := Has.lt hb
  unfold noAsk at hc
  clear hb
  go_enter Try.func18, Try.ntmps18
  go_wp2_with (first | (go_at_call 25; refine (rcv_do_zero _ b (by repeat (first | exact HB.out | refine Has.alloc ?_ _)) _ _).mono ?_; rintro e w9 ⟨rfl, rfl⟩))
  go_ret
  exact ⟨rfl, (by repeat (first | refine Below.drew ?_ | refine Below.alloc ?_ (by first | exact Nat.le_refl _ | (simp; done) | (simp; omega)) _ | refine Below.setCell ?_ (by first | exact Nat.le_refl _ | (simp; done) | (simp; omega)) _ | exact Below.refl _ _))⟩

set_option maxHeartbeats 1000000 in
theorem rcv_counts_zero (w : World) (b : Nat) (hb : Has w b 32 noAsk) : Calls Try.prog 19 #[.pointer (some ⟨b, 0, none⟩)] w fun e w' => e = .returned (.agg #[.int .i64 0, .int .i64 0, .int .i64 0, .int .i64 0, .int .i64 0, .int .i64 0]) ∧ Below w.heap.size w w' := by
  have HB := Lib.hid hb
  have hc := hb.cell
  have hlt : b < w.heap.size := Has.lt hb
  unfold noAsk at hc
  clear hb
  go_enter Try.func19, Try.ntmps19
  go_wp2
  exact bodyPost_ret (v := .agg #[.int .i64 0, .int .i64 0, .int .i64 0, .int .i64 0, .int .i64 0, .int .i64 0]) (by simp [results, Try.results19, go_sem]) rfl ⟨rfl, (by repeat (first | refine Below.drew ?_ | refine Below.alloc ?_ (by first | exact Nat.le_refl _ | (simp; done) | (simp; omega)) _ | refine Below.setCell ?_ (by first | exact Nat.le_refl _ | (simp; done) | (simp; omega)) _ | exact Below.refl _ _))⟩

end Go.Proofs.Ytdbknbgomcabbaa
