/- The throttle's methods at string, walked one by one: each answers, and leaves the throttle, as the plain functions say. Conditions: the receiver is a throttle that was made, its numbers in bounds. -/
import Derived.Test.YthbefhpgpebkgaaRows
import Derived.Test.YthbefhpgpebkgaaMem
import Derived.Test.YthbefhpgpebkgaaPlain
import Derived.Test.YthbefhpgpebkgaaTSB
import Derived.WalkSpells
import Derived.WalkLawsBesides
import Derived.BigQuiet
import Derived.Lib.Hide
namespace Go.Proofs.Ythbefhpgpebkgaa.TS
open Go.RowKit

theorem new_yes (n : Int) (w : World) (h0 : 0 ≤ n) (h1 : n ≤ 1048576) :
    Calls Try.prog 29 #[.int .i64 n] w fun e w' => e = .returned (.tuple #[.pointer (some ⟨w.heap.size, 0, none⟩), .int .i64 0]) ∧ w.alloc (.cells (cells (Thr.fresh ByteArray.empty n)) 86) = w' := by
  go_enter Try.func29, Try.ntmps29
  go_wp2
  go_ret2
  exact ⟨rfl, rfl⟩

theorem new_no (n : Int) (w : World) (h : n < 0 ∨ 1048576 < n) :
    Calls Try.prog 29 #[.int .i64 n] w fun e w' => e = .returned (.tuple #[.pointer none, .int .i64 2]) ∧ w = w' := by
  rcases h with h | h
  · go_enter Try.func29, Try.ntmps29
    go_wp2
    go_ret2
    exact ⟨rfl, rfl⟩
  · have h2 : ¬ n < 0 := by omega
    go_enter Try.func29, Try.ntmps29
    go_wp2
    go_ret2
    exact ⟨rfl, rfl⟩

set_option maxHeartbeats 400000 in
theorem counts_any (b : Nat) (s : Thr.St ByteArray) (w : World) (hb : At w b s) :
    Calls Try.prog 34 #[.pointer (some ⟨b, 0, none⟩)] w fun e w' => e = .returned (.tuple #[.int .i64 s.offered, .int .i64 s.taken, .int .i64 s.lost]) ∧ Below w.heap.size w w' := by
  have hc := Has.cell hb
  have hf := Has.free hb
  have hlt := Has.lt hb
  have hlt1 : b < w.heap.size + 1 := by omega
  have hlt2 : b < w.heap.size + 1 + 1 := by omega
  have hlt3 : b < w.heap.size + 1 + 1 + 1 := by omega
  unfold cells at hc
  clear hb
  go_enter Try.func34, Try.ntmps34
  go_wp2
  go_region
  go_wp2
  go_end0
  go_wp2
  go_region
  go_wp2
  exact bodyPost_ret (v := .tuple #[.int .i64 s.offered, .int .i64 s.taken, .int .i64 s.lost]) (by simp [results, Try.results34, go_sem]) rfl ⟨rfl, (by repeat (first | exact Below.refl _ _ | refine Below.drew ?_ | refine below_drewN ?_ _ | refine Below.alloc ?_ (by first | exact Nat.le_refl _ | (simp; done) | (simp; omega)) _ | refine Below.setCell ?_ (by first | exact Nat.le_refl _ | (simp; done) | (simp; omega)) _))⟩

set_option maxHeartbeats 400000 in
theorem move_any (b : Nat) (s : Thr.St ByteArray) (now : Int) (w : World) (hb : At w b s) :
    Calls Try.prog 33 #[.pointer (some ⟨b, 0, none⟩), .int .i64 now] w fun e w' => e = .returned (.int .i64 (Thr.moveErr s now)) ∧ To w w' b (Thr.move s now) := by
  have HB := Lib.hid hb
  have hc := Has.cell hb
  have hf := Has.free hb
  have hlt := Has.lt hb
  have hlt1 : b < w.heap.size + 1 := by omega
  have hlt2 : b < w.heap.size + 1 + 1 := by omega
  unfold cells at hc
  clear hb
  by_cases h1 : now < s.now
  · have hk : Thr.moveOk s now = false := by simp [Thr.moveOk, h1]
    have e1 : Thr.moveErr s now = 310 := by simp [Thr.moveErr, hk]
    have e2 : Thr.move s now = s := by simp [Thr.move, hk]
    rw [e1, e2]
    clear e1 e2 hk
    have hd : decide (now < s.now) = true := by simpa using h1
    go_enter Try.func33, Try.ntmps33
    go_wp2
    go_quiet (fail)
    go_wp2
    first | go_end0 | refine bodyPost_ret (results_none rfl _ _ _) rfl ?_
    go_wp2
    go_ret
    exact ⟨rfl, Turned.since_ (by repeat (first | exact Below.refl _ _ | refine Below.drew ?_ | refine below_drewN ?_ _ | refine Below.alloc ?_ (by first | exact Nat.le_refl _ | (simp; done) | (simp; omega)) _ | refine Below.setCell ?_ (by first | exact Nat.le_refl _ | (simp; done) | (simp; omega)) _)) (Turned.begin_ (Has.below (t := 86) HB.out (by repeat (first | exact Below.refl _ _ | refine Below.drew ?_ | refine below_drewN ?_ _ | refine Below.alloc ?_ (by first | exact Nat.le_refl _ | (simp; done) | (simp; omega)) _ | refine Below.setCell ?_ (by first | exact Nat.le_refl _ | (simp; done) | (simp; omega)) _)) hlt))⟩
  · by_cases h2 : 281474976710656 < now
    · have hk : Thr.moveOk s now = false := by simp [Thr.moveOk, h2]
      have e1 : Thr.moveErr s now = 310 := by simp [Thr.moveErr, hk]
      have e2 : Thr.move s now = s := by simp [Thr.move, hk]
      rw [e1, e2]
      clear e1 e2 hk
      have hd : decide (now < s.now) = false := by simpa using h1
      go_enter Try.func33, Try.ntmps33
      go_wp2
      go_quiet (fail)
      go_wp2
      first | go_end0 | refine bodyPost_ret (results_none rfl _ _ _) rfl ?_
      go_wp2
      go_ret
      exact ⟨rfl, Turned.since_ (by repeat (first | exact Below.refl _ _ | refine Below.drew ?_ | refine below_drewN ?_ _ | refine Below.alloc ?_ (by first | exact Nat.le_refl _ | (simp; done) | (simp; omega)) _ | refine Below.setCell ?_ (by first | exact Nat.le_refl _ | (simp; done) | (simp; omega)) _)) (Turned.begin_ (Has.below (t := 86) HB.out (by repeat (first | exact Below.refl _ _ | refine Below.drew ?_ | refine below_drewN ?_ _ | refine Below.alloc ?_ (by first | exact Nat.le_refl _ | (simp; done) | (simp; omega)) _ | refine Below.setCell ?_ (by first | exact Nat.le_refl _ | (simp; done) | (simp; omega)) _)) hlt))⟩
    · have hk : Thr.moveOk s now = true := by simp [Thr.moveOk, h1, h2]
      have e1 : Thr.moveErr s now = 0 := by simp [Thr.moveErr, hk]
      have e2 : Thr.move s now = { s with now := now } := by simp [Thr.move, hk]
      rw [e1, e2]
      clear e1 e2 hk
      have hd : decide (now < s.now) = false := by simpa using h1
      go_enter Try.func33, Try.ntmps33
      go_wp2
      go_quiet (fail)
      go_wp2
      first | go_end0 | refine bodyPost_ret (results_none rfl _ _ _) rfl ?_
      go_wp2
      go_ret
      exact ⟨rfl, Turned.conv_ (Turned.here_ (Turned.since_ (by repeat (first | exact Below.refl _ _ | refine Below.drew ?_ | refine below_drewN ?_ _ | refine Below.alloc ?_ (by first | exact Nat.le_refl _ | (simp; done) | (simp; omega)) _ | refine Below.setCell ?_ (by first | exact Nat.le_refl _ | (simp; done) | (simp; omega)) _)) (Turned.begin_ (Has.below (t := 86) HB.out (by repeat (first | exact Below.refl _ _ | refine Below.drew ?_ | refine below_drewN ?_ _ | refine Below.alloc ?_ (by first | exact Nat.le_refl _ | (simp; done) | (simp; omega)) _ | refine Below.setCell ?_ (by first | exact Nat.le_refl _ | (simp; done) | (simp; omega)) _)) hlt))) 2 _) rfl⟩

end Go.Proofs.Ythbefhpgpebkgaa.TS
