/- The methods of an Ask, walked (3): Move, Next. Conditions: the receiver is an Ask that was made, its numbers in bounds. -/
import Derived.Test.YtdbknbgomcabbaaA2
namespace Go.Proofs.Ytdbknbgomcabbaa
open Go.RowKit

theorem move1_any (b nb ab eb mb : Nat) (N : Int) (s : Ak.St) (now : Int) (w : World) (hb : At w b s) (hn : Has w nb 3 #[.int .i64 now]) (ha : Has w ab 28 #[.pointer (some ⟨b, 0, none⟩)]) (he : Has w eb 34 #[.int .i64 0]) (hm : Has w mb 3 #[.int .i64 0])
    (hs : Ak.Ok N s) (hN : N ≤ 1000000000) (h1 : b ≠ eb) (h2 : b ≠ mb) (h3 : eb ≠ mb) (h4 : b ≠ nb) (h5 : b ≠ ab) (h6 : mb ≠ nb) (h7 : mb ≠ ab) :
    Calls Try.prog 26 #[.pointer (some ⟨nb, 0, none⟩), .pointer (some ⟨ab, 0, none⟩), .pointer (some ⟨eb, 0, none⟩), .pointer (some ⟨mb, 0, none⟩)] w fun e w' => e = .returned (.tuple #[]) ∧ Moved w w' b eb mb (Ak.move s now) (Ak.moveErr s now) (Ak.number s now) := by
  rcases hk : Ak.moveOk s now with _ | _
  · have e1 : Ak.move s now = s := by unfold Ak.move; rw [hk]; rfl
    have e2 : Ak.moveErr s now = 320 := by unfold Ak.moveErr; rw [hk]; rfl
    have e3 : Ak.number s now = 0 := by unfold Ak.number Ak.opens; rw [hk]; rfl
    rw [e1, e2, e3]
    exact move1_no b nb ab eb mb s now w hb hn ha he hm h1 h3 hk
  · have e2 : Ak.moveErr s now = 0 := by unfold Ak.moveErr; rw [hk]; rfl
    rcases ho : Ak.opens s now with _ | _
    · have e1 : Ak.move s now = { s with clock := now } := by unfold Ak.move; rw [hk, ho]; rfl
      have e3 : Ak.number s now = 0 := by unfold Ak.number; rw [ho]; rfl
      rw [e1, e2, e3]
      exact move1_still b nb ab eb mb N s now w hb hn ha he hm hs h1 h2 hk ho
    · have e1 : Ak.move s now = Ak.opened s now := by unfold Ak.move; rw [hk, ho]; rfl
      have e3 : Ak.number s now = s.asked + 1 := by unfold Ak.number; rw [ho]; rfl
      rw [e1, e2, e3]
      exact move1_opens b nb ab eb mb N s now w hb hn ha he hm hs hN h1 h2 h4 h5 h6 h7 h3.symm hk ho

/-- A call's boxes: four new blocks. -/
theorem four_new {w : World} (o0 o1 o2 o3 : Array Value) (t0 t1 t2 t3 : TypeId) :
    Has ((((w.alloc (.cells o0 t0)).alloc (.cells o1 t1)).alloc (.cells o2 t2)).alloc (.cells o3 t3)) w.heap.size t0 o0 ∧
    Has ((((w.alloc (.cells o0 t0)).alloc (.cells o1 t1)).alloc (.cells o2 t2)).alloc (.cells o3 t3)) (w.heap.size + 1) t1 o1 ∧
    Has ((((w.alloc (.cells o0 t0)).alloc (.cells o1 t1)).alloc (.cells o2 t2)).alloc (.cells o3 t3)) (w.heap.size + 1 + 1) t2 o2 ∧
    Has ((((w.alloc (.cells o0 t0)).alloc (.cells o1 t1)).alloc (.cells o2 t2)).alloc (.cells o3 t3)) (w.heap.size + 1 + 1 + 1) t3 o3 := by
  refine ⟨((Has.made w t0 o0).alloc _ |>.alloc _).alloc _, ?_, ?_, ?_⟩
  · have h := ((Has.made (w.alloc (.cells o0 t0)) t1 o1).alloc (.cells o2 t2)).alloc (.cells o3 t3)
    simpa using h
  · have h := (Has.made ((w.alloc (.cells o0 t0)).alloc (.cells o1 t1)) t2 o2).alloc (.cells o3 t3)
    simpa using h
  · have h := Has.made (((w.alloc (.cells o0 t0)).alloc (.cells o1 t1)).alloc (.cells o2 t2)) t3 o3
    simpa using h

set_option maxHeartbeats 400000 in
theorem move_any (b : Nat) (N : Int) (s : Ak.St) (now : Int) (w : World) (hb : At w b s) (hs : Ak.Ok N s) (hN : N ≤ 1000000000) :
    Calls Try.prog 13 #[.pointer (some ⟨b, 0, none⟩), .int .i64 now] w fun e w' => e = .returned (.tuple #[.int .i64 (Ak.number s now), .int .i64 (Ak.moveErr s now)]) ∧ To w w' b (Ak.move s now) := by
  have c6 : w.cell? ⟨b, 6, none⟩ = some (.bool true) := Has.cell hb 6
  have hlt := Has.lt hb
  have hlt1 : b < w.heap.size + 1 := by omega
  have hlt2 : b < w.heap.size + 1 + 1 := by omega
  have hlt3 : b < w.heap.size + 1 + 1 + 1 := by omega
  obtain ⟨f0, f1, f2, f3⟩ := four_new (w := w) #[.pointer (some ⟨b, 0, none⟩)] #[.int .i64 now] #[.int .i64 0] #[.int .i64 0] 28 3 3 34
  have hbl : Below w.heap.size w ((((w.alloc (.cells #[.pointer (some ⟨b, 0, none⟩)] 28)).alloc (.cells #[.int .i64 now] 3)).alloc (.cells #[.int .i64 0] 3)).alloc (.cells #[.int .i64 0] 34)) :=
    ((((Below.refl _ _).alloc (Nat.le_refl _) _).alloc (by simp) _).alloc (by simp; omega) _).alloc (by simp; omega) _
  have hb4 := Has.below (t := 32) hb hbl hlt
  have c1 := move1_any b (w.heap.size + 1) w.heap.size (w.heap.size + 1 + 1 + 1) (w.heap.size + 1 + 1) N s now _ hb4 f1 f0 f3 f2 hs hN (by omega) (by omega) (by omega) (by omega) (by omega) (by omega) (by omega)
  have HBL := Lib.hid hbl
  have HB := Lib.hid hb
  clear hb f0 f1 f2 f3 hb4 hbl hs
  go_enter Try.func13, Try.ntmps13
  go_wp2_with (go_at_call 25; go_in)
  refine c1.mono ?_
  rintro e w5 ⟨rfl, hm⟩
  have c2 : w5.cell? ⟨w.heap.size + 1 + 1, 0, none⟩ = some (.int .i64 (Ak.number s now)) := hm.num.cell 0
  have c3 : w5.cell? ⟨w.heap.size + 1 + 1 + 1, 0, none⟩ = some (.int .i64 (Ak.moveErr s now)) := hm.err.cell 0
  have HM := Lib.hid hm
  clear hm c1 c6
  go_wp2
  go_quiet (fail)
  go_wp2
  go_ret2
  have g := HBL.out
  have m := HM.out
  have ms := m.size
  simp at ms
  refine ⟨rfl, ⟨?_, m.at_⟩⟩
  exact ⟨m.os.trans g.os, m.tape.trans g.tape, m.output.trans g.output, by show w.heap.size ≤ w5.heap.size; omega, fun k hk hne => (m.block k (by simp; omega) (by simpa using hne) (by omega) (by omega)).trans (g.block k hk)⟩
end Go.Proofs.Ytdbknbgomcabbaa
