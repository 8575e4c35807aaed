/- The throttle's methods at int, walked one by one: each answers, and leaves the throttle, as the plain functions say. Conditions: the receiver is a throttle that was made, its numbers in bounds. -/
import Derived.Test.YthbefhpgpebkgaaRows
import Derived.Test.YthbefhpgpebkgaaMem
import Derived.Test.YthbefhpgpebkgaaPlain
import Derived.Test.YthbefhpgpebkgaaTIB
import Derived.WalkSpells
import Derived.WalkLawsBesides
import Derived.BigQuiet
import Derived.Lib.Hide
namespace Go.Proofs.Ythbefhpgpebkgaa.TI
open Go.RowKit

theorem waits_any (b : Nat) (N : Int) (s : Thr.St Int) (w : World) (hb : At w b s) (hs : Thr.Ok N s) :
    Calls Try.prog 27 #[.pointer (some ⟨b, 0, none⟩)] w fun e w' => e = .returned (.bool s.waits) ∧ Below w.heap.size w w' := by
  have HB := Lib.hid hb
  clear hb
  go_enter Try.func27, Try.ntmps27
  go_wp2_with (go_at_call 14; refine (next_any b N s _ HB.out hs).mono ?_; rintro e w1 ⟨rfl, h1⟩; have H1 := Lib.hid h1; clear h1)
  go_ret
  exact ⟨rfl, H1.out⟩

theorem new_yes (n : Int) (w : World) (h0 : 0 ≤ n) (h1 : n ≤ 1048576) :
    Calls Try.prog 18 #[.int .i64 n] w fun e w' => e = .returned (.tuple #[.pointer (some ⟨w.heap.size, 0, none⟩), .int .i64 0]) ∧ w.alloc (.cells (cells (Thr.fresh 0 n)) 60) = w' := by
  go_enter Try.func18, Try.ntmps18
  go_wp2
  go_ret2
  exact ⟨rfl, rfl⟩

theorem new_no (n : Int) (w : World) (h : n < 0 ∨ 1048576 < n) :
    Calls Try.prog 18 #[.int .i64 n] w fun e w' => e = .returned (.tuple #[.pointer none, .int .i64 2]) ∧ w = w' := by
  rcases h with h | h
  · go_enter Try.func18, Try.ntmps18
    go_wp2
    go_ret2
    exact ⟨rfl, rfl⟩
  · have h2 : ¬ n < 0 := by omega
    go_enter Try.func18, Try.ntmps18
    go_wp2
    go_ret2
    exact ⟨rfl, rfl⟩

set_option maxHeartbeats 400000 in
theorem counts_any (b : Nat) (s : Thr.St Int) (w : World) (hb : At w b s) :
    Calls Try.prog 26 #[.pointer (some ⟨b, 0, none⟩)] w fun e w' => e = .returned (.tuple #[.int .i64 s.offered, .int .i64 s.taken, .int .i64 s.lost]) ∧ Below w.heap.size w w' := by
  have hc := Has.cell hb
  have hf := Has.free hb
  have hlt := Has.lt hb
  have hlt1 : b < w.heap.size + 1 := by omega
  have hlt2 : b < w.heap.size + 1 + 1 := by omega
  have hlt3 : b < w.heap.size + 1 + 1 + 1 := by omega
  unfold cells at hc
  clear hb
  go_enter Try.func26, Try.ntmps26
  go_wp2
  go_region
  go_wp2
  go_end0
  go_wp2
  go_region
  go_wp2
  exact bodyPost_ret (v := .tuple #[.int .i64 s.offered, .int .i64 s.taken, .int .i64 s.lost]) (by simp [results, Try.results26, go_sem]) rfl ⟨rfl, (by repeat (first | exact Below.refl _ _ | refine Below.drew ?_ | refine below_drewN ?_ _ | refine Below.alloc ?_ (by first | exact Nat.le_refl _ | (simp; done) | (simp; omega)) _ | refine Below.setCell ?_ (by first | exact Nat.le_refl _ | (simp; done) | (simp; omega)) _))⟩

set_option maxHeartbeats 400000 in
theorem clearM_any (b : Nat) (N : Int) (s : Thr.St Int) (w : World) (hb : At w b s) (hs : Thr.Ok N s) (hN : N ≤ 1000000000) :
    Calls Try.prog 28 #[.pointer (some ⟨b, 0, none⟩)] w fun e w' => e = .returned (.bool s.waits) ∧ To w w' b (Thr.clear 0 s) := by
  have cb : w.cell? ⟨b, 0, none⟩ = some (.bool true) := Has.cell hb 0
  have hlt := Has.lt hb
  have hbl : Below w.heap.size w ((w.alloc (.cells #[.pointer (some ⟨b, 0, none⟩)] 25)).alloc (.cells #[.bool false] 4)) := ((Below.refl _ _).alloc (Nat.le_refl _) _).alloc (by simp) _
  have c1 := clear_any b N s _ (Has.below (t := 60) hb hbl hlt) hs hN
  go_enter Try.func28, Try.ntmps28
  go_wp2_with (first | (go_at_call 35; go_in) | (go_at_call 52; go_in))
  refine c1.mono ?_
  rintro e w1 ⟨rfl, h1⟩
  have g1 := h1.grown
  have c2 : w1.cell? ⟨w.heap.size + 1, 0, none⟩ = some (.bool false) := (World.cell?_of_block (g1.block (w.heap.size + 1) (by simp) (by simp; omega))).trans (by simp)
  have f2 : w1.frozen? ⟨w.heap.size + 1, 0, none⟩ = false := (World.frozen?_of_block (g1.block (w.heap.size + 1) (by simp) (by simp; omega))).trans (by simp)
  have H1 := Lib.hid h1
  have HS : Hid (w.heap.size + 2 ≤ w1.heap.size) := by have := g1.size; show _ ≤ _; simpa using this
  clear h1 g1 cb
  go_wp2
  go_end0
  go_wp2
  go_ret
  exact ⟨rfl, Turned.new_ (Turned.since_ hbl H1.out) hlt _ _ (by omega) _⟩

set_option maxHeartbeats 400000 in
theorem move_any (b : Nat) (s : Thr.St Int) (now : Int) (w : World) (hb : At w b s) :
    Calls Try.prog 16 #[.pointer (some ⟨b, 0, none⟩), .int .i64 now] w fun e w' => e = .returned (.int .i64 (Thr.moveErr s now)) ∧ To w w' b (Thr.move s now) := by
  have HB := Lib.hid hb
  have hc := Has.cell hb
  have hf := Has.free hb
  have hlt := Has.lt hb
  have hlt1 : b < w.heap.size + 1 := by omega
  have hlt2 : b < w.heap.size + 1 + 1 := by omega
  unfold cells at hc
  clear hb
  by_cases h1 : now < s.now
  · have hk : Thr.moveOk s now = false := by simp [Thr.moveOk, h1]
    have e1 : Thr.moveErr s now = 310 := by simp [Thr.moveErr, hk]
    have e2 : Thr.move s now = s := by simp [Thr.move, hk]
    rw [e1, e2]
    clear e1 e2 hk
    have hd : decide (now < s.now) = true := by simpa using h1
    go_enter Try.func16, Try.ntmps16
    go_wp2
    go_quiet (fail)
    go_wp2
    first | go_end0 | refine bodyPost_ret (results_none rfl _ _ _) rfl ?_
    go_wp2
    go_ret
    exact ⟨rfl, Turned.since_ (by repeat (first | exact Below.refl _ _ | refine Below.drew ?_ | refine below_drewN ?_ _ | refine Below.alloc ?_ (by first | exact Nat.le_refl _ | (simp; done) | (simp; omega)) _ | refine Below.setCell ?_ (by first | exact Nat.le_refl _ | (simp; done) | (simp; omega)) _)) (Turned.begin_ (Has.below (t := 60) HB.out (by repeat (first | exact Below.refl _ _ | refine Below.drew ?_ | refine below_drewN ?_ _ | refine Below.alloc ?_ (by first | exact Nat.le_refl _ | (simp; done) | (simp; omega)) _ | refine Below.setCell ?_ (by first | exact Nat.le_refl _ | (simp; done) | (simp; omega)) _)) hlt))⟩
  · by_cases h2 : 281474976710656 < now
    · have hk : Thr.moveOk s now = false := by simp [Thr.moveOk, h2]
      have e1 : Thr.moveErr s now = 310 := by simp [Thr.moveErr, hk]
      have e2 : Thr.move s now = s := by simp [Thr.move, hk]
      rw [e1, e2]
      clear e1 e2 hk
      have hd : decide (now < s.now) = false := by simpa using h1
      go_enter Try.func16, Try.ntmps16
      go_wp2
      go_quiet (fail)
      go_wp2
      first | go_end0 | refine bodyPost_ret (results_none rfl _ _ _) rfl ?_
      go_wp2
      go_ret
      exact ⟨rfl, Turned.since_ (by repeat (first | exact Below.refl _ _ | refine Below.drew ?_ | refine below_drewN ?_ _ | refine Below.alloc ?_ (by first | exact Nat.le_refl _ | (simp; done) | (simp; omega)) _ | refine Below.setCell ?_ (by first | exact Nat.le_refl _ | (simp; done) | (simp; omega)) _)) (Turned.begin_ (Has.below (t := 60) HB.out (by repeat (first | exact Below.refl _ _ | refine Below.drew ?_ | refine below_drewN ?_ _ | refine Below.alloc ?_ (by first | exact Nat.le_refl _ | (simp; done) | (simp; omega)) _ | refine Below.setCell ?_ (by first | exact Nat.le_refl _ | (simp; done) | (simp; omega)) _)) hlt))⟩
    · have hk : Thr.moveOk s now = true := by simp [Thr.moveOk, h1, h2]
      have e1 : Thr.moveErr s now = 0 := by simp [Thr.moveErr, hk]
      have e2 : Thr.move s now = { s with now := now } := by simp [Thr.move, hk]
      rw [e1, e2]
      clear e1 e2 hk
      have hd : decide (now < s.now) = false := by simpa using h1
      go_enter Try.func16, Try.ntmps16
      go_wp2
      go_quiet (fail)
      go_wp2
      first | go_end0 | refine bodyPost_ret (results_none rfl _ _ _) rfl ?_
      go_wp2
      go_ret
      exact ⟨rfl, Turned.conv_ (Turned.here_ (Turned.since_ (by repeat (first | exact Below.refl _ _ | refine Below.drew ?_ | refine below_drewN ?_ _ | refine Below.alloc ?_ (by first | exact Nat.le_refl _ | (simp; done) | (simp; omega)) _ | refine Below.setCell ?_ (by first | exact Nat.le_refl _ | (simp; done) | (simp; omega)) _)) (Turned.begin_ (Has.below (t := 60) HB.out (by repeat (first | exact Below.refl _ _ | refine Below.drew ?_ | refine below_drewN ?_ _ | refine Below.alloc ?_ (by first | exact Nat.le_refl _ | (simp; done) | (simp; omega)) _ | refine Below.setCell ?_ (by first | exact Nat.le_refl _ | (simp; done) | (simp; omega)) _)) hlt))) 2 _) rfl⟩

end Go.Proofs.Ythbefhpgpebkgaa.TI
