/- The methods of an Ask, walked (4): Next, Answer, Stop. Conditions: the receiver is an Ask that was made, its numbers in bounds. -/
import Derived.Test.YtdbknbgomcabbaaA3
namespace Go.Proofs.Ytdbknbgomcabbaa
open Go.RowKit

theorem Ak.Ok.next_ {N : Int} {s : Ak.St} (h : Ak.Ok N s) : 0 ≤ Ak.dueOf s.start s.width s.clock ∧ Ak.dueOf s.start s.width s.clock ≤ 281474976710656 ∧ 1 ≤ (Ak.dueOf s.start s.width s.clock + 1) * s.width ∧ s.start + (Ak.dueOf s.start s.width s.clock + 1) * s.width ≤ 281474976710656 + 1099511627776 := by
  have a := Ak.due_spec h.w1 h.c0
  have e : (Ak.dueOf s.start s.width s.clock + 1) * s.width = Ak.dueOf s.start s.width s.clock * s.width + s.width := by rw [Int.add_mul, Int.one_mul]
  have h1 := h.w1
  have h2 := h.w2
  have h3 := h.s0
  have h4 := h.c1
  have h5 := h.c0
  omega

set_option maxHeartbeats 1000000 in
theorem next_any (b : Nat) (N : Int) (s : Ak.St) (w : World) (hb : At w b s) (hs : Ak.Ok N s) :
    Calls Try.prog 15 #[.pointer (some ⟨b, 0, none⟩)] w fun e w' => e = .returned (.tuple #[.int .i64 (Ak.next s), .bool (Ak.hasNext s)]) ∧ Below w.heap.size w w' := by
  have hc := Has.cell hb
  have hf := Has.free hb
  have hlt := Has.lt hb
  have hlt1 : b < w.heap.size + 1 := by omega
  have hlt2 : b < w.heap.size + 1 + 1 := by omega
  have hn0 := hs.s0
  have hn1 := hs.w1
  have hn2 := hs.w2
  have hn3 := hs.c0
  have hn4 := hs.c1
  obtain ⟨g0, g1, g2, g3⟩ := hs.next_
  unfold cells at hc
  clear hb hs
  rcases hst : s.stopped with _ | _
  · have HA : Hid (Ak.nextAt s = s.start + (Ak.dueOf s.start s.width s.clock + 1) * s.width) := by show _ = _; unfold Ak.nextAt; rw [hst]; rfl
    have e1 : IntKind.i64.wrap (Ak.dueOf s.start s.width s.clock + 1) = Ak.dueOf s.start s.width s.clock + 1 := IntWalk.i64_in _ (by omega)
    have e2 : IntKind.i64.wrap ((Ak.dueOf s.start s.width s.clock + 1) * s.width) = (Ak.dueOf s.start s.width s.clock + 1) * s.width := IntWalk.i64_in _ (by omega)
    have e3 : IntKind.i64.wrap (s.start + (Ak.dueOf s.start s.width s.clock + 1) * s.width) = s.start + (Ak.dueOf s.start s.width s.clock + 1) * s.width := IntWalk.i64_in _ (by omega)
    go_enter Try.func15, Try.ntmps15
    go_wp2_with (first | (go_at_call 25; go_in) | (go_at_call 29; go_in))
    obtain ⟨W2, hW2⟩ : ∃ W2, W2 = (w.alloc (.cells #[.pointer (some ⟨b, 0, none⟩)] 28)).alloc (.cells #[.int .i64 0] 3) := ⟨_, rfl⟩
    rw [← hW2]
    have hbl : Below w.heap.size w W2 := by rw [hW2]; exact ((Below.refl _ _).alloc (Nat.le_refl _) _).alloc (by simp) _
    have y1 : W2.cell? ⟨w.heap.size, 0, none⟩ = some (.pointer (some ⟨b, 0, none⟩)) := by rw [hW2]; exact ((Has.made w 28 _).alloc _).cell 0
    have y2 : W2.cell? ⟨b, 8, none⟩ = some (.int .i64 s.start) := (hbl.cell hlt).trans (hc 8)
    have y3 : W2.cell? ⟨b, 9, none⟩ = some (.int .i64 s.width) := (hbl.cell hlt).trans (hc 9)
    have y4 : W2.cell? ⟨b, 10, none⟩ = some (.int .i64 s.clock) := (hbl.cell hlt).trans (hc 10)
    have hb5 : Has W2 (w.heap.size + 1) 3 #[.int .i64 0] := by rw [hW2]; simpa using Has.made (w.alloc (.cells #[.pointer (some ⟨b, 0, none⟩)] 28)) 3 #[.int .i64 0]
    have y5 : W2.cell? ⟨w.heap.size + 1, 0, none⟩ = some (.int .i64 0) := hb5.cell 0
    have y6 : W2.frozen? ⟨w.heap.size + 1, 0, none⟩ = false := hb5.free 0
    have y7 : ¬ b = w.heap.size + 1 := by omega
    have HBL := Lib.hid hbl
    clear hW2 hc hf hb5 hbl hlt1 hlt2
    generalize hD : Ak.dueOf s.start s.width s.clock = D at *
    go_region_held3 (fun W => W.cell? ⟨w.heap.size, 0, none⟩ = some (.pointer (some ⟨b, 0, none⟩)) ∧ W.cell? ⟨b, 8, none⟩ = some (.int .i64 s.start) ∧ W.cell? ⟨b, 9, none⟩ = some (.int .i64 s.width) ∧ W.cell? ⟨b, 10, none⟩ = some (.int .i64 s.clock)) (first | (go_keep; done) | (simp [World.cell?_setCell_other, *]; done))
      (first | (go_at_call 27; refine (due_cells b s.start s.width s.clock _ ?_ ?_ hn1 hn2 hn0 hn3 hn4).mono ?_; (simp [*]); (simp [*]); rw [hD]; rintro e w9 ⟨rfl, n9, rfl⟩))
    go_end0
    have HAT : Hid ((Ak.hasNext s = !(decide (s.start + (D + 1) * s.width = 0) || decide (281474976710656 < s.start + (D + 1) * s.width))) ∧ Ak.next s = if Ak.hasNext s then s.start + (D + 1) * s.width else 0) := by
      show _ ∧ _
      have h := HA.out
      exact ⟨by unfold Ak.hasNext; rw [h], by unfold Ak.next; rw [h]⟩
    clear e1 e2 e3
    have hT1 : 1 ≤ s.start + (D + 1) * s.width := by omega
    generalize s.start + (D + 1) * s.width = T at *
    have hq0 : (T == 0) = false := by simp; omega
    have HZ : Hid (decide (T = 0) = false) := by show _ = _; exact decide_eq_false (by omega)
    rcases (show T ≤ 281474976710656 ∨ 281474976710656 < T by omega) with hq1 | hq1
    · have HQ : Hid (Ak.hasNext s = true ∧ Ak.next s = T) := by
        show _ ∧ _
        have h1 : Ak.hasNext s = true := by rw [HAT.out.1, HZ.out, decide_eq_false (by omega)]; rfl
        exact ⟨h1, by rw [HAT.out.2, h1]; rfl⟩
      go_wp2
      go_ret2
      exact ⟨by rw [HQ.out.1, HQ.out.2]; rfl, (below_drewN HBL.out _).setCell (p := ⟨w.heap.size + 1, 0, none⟩) (by simp) _⟩
    · have HQ : Hid (Ak.hasNext s = false ∧ Ak.next s = 0) := by
        show _ ∧ _
        have h1 : Ak.hasNext s = false := by rw [HAT.out.1, HZ.out, decide_eq_true hq1]; rfl
        exact ⟨h1, by rw [HAT.out.2, h1]; rfl⟩
      go_wp2
      go_ret2
      exact ⟨by rw [HQ.out.1, HQ.out.2]; rfl, (below_drewN HBL.out _).setCell (p := ⟨w.heap.size + 1, 0, none⟩) (by simp) _⟩
  · have HA : Hid (Ak.next s = 0 ∧ Ak.hasNext s = false) := by
      show _ ∧ _
      have h : Ak.hasNext s = false := by unfold Ak.hasNext Ak.nextAt; rw [hst]; rfl
      exact ⟨by unfold Ak.next; rw [h]; rfl, h⟩
    go_enter Try.func15, Try.ntmps15
    go_wp2_with (first | (go_at_call 25; go_in) | (go_at_call 29; go_in))
    first | go_end0 | refine bodyPost_ret (results_none rfl _ _ _) rfl ?_
    go_wp2
    go_ret2
    exact ⟨by rw [HA.out.1, HA.out.2]; rfl, (by repeat (first | exact Below.refl _ _ | refine Below.drew ?_ | refine below_drewN ?_ _ | refine Below.alloc ?_ (by first | exact Nat.le_refl _ | (simp; done) | (simp; omega)) _ | refine Below.setCell ?_ (by first | exact Nat.le_refl _ | (simp; done) | (simp; omega)) _))⟩

set_option maxHeartbeats 400000 in
theorem stop_any (b : Nat) (N : Int) (s : Ak.St) (w : World) (hb : At w b s) (hs : Ak.Ok N s) (hN : N ≤ 1000000000) :
    Calls Try.prog 18 #[.pointer (some ⟨b, 0, none⟩)] w fun e w' => e = .returned (.bool (Ak.fails s)) ∧ To w w' b (Ak.stop s) := by
  have c6 : w.cell? ⟨b, 6, none⟩ = some (.bool true) := Has.cell hb 6
  have hlt := Has.lt hb
  have hbl : Below w.heap.size w ((w.alloc (.cells #[.pointer (some ⟨b, 0, none⟩)] 28)).alloc (.cells #[.bool false] 4)) := ((Below.refl _ _).alloc (Nat.le_refl _) _).alloc (by simp) _
  have c1 := fail_any b s _ (Has.below (t := 32) hb hbl hlt) hs.f0 (by have := hs.f1; omega)
  go_enter Try.func18, Try.ntmps18
  go_wp2_with (first | (go_at_call 25; go_in) | (go_at_call 31; go_in))
  refine c1.mono ?_
  rintro e w1 ⟨rfl, h1⟩
  have g1 := h1.grown
  have c2 : w1.cell? ⟨w.heap.size, 0, none⟩ = some (.pointer (some ⟨b, 0, none⟩)) := far_cell g1 (by omega) (((Has.made w 28 _).alloc _).cell 0)
  have c3 : w1.cell? ⟨w.heap.size + 1, 0, none⟩ = some (.bool false) := far_cell g1 (by omega) (by simp)
  have f3 : w1.frozen? ⟨w.heap.size + 1, 0, none⟩ = false := (World.frozen?_of_block (g1.block (w.heap.size + 1) (by simp) (by simp; omega))).trans (by simp)
  have cb : w1.cell? ⟨b, 7, none⟩ = some (.bool (Ak.fail s).stopped) := Has.cell h1.has 7
  have fb : w1.frozen? ⟨b, 7, none⟩ = false := Has.free h1.has 7
  have n1 : ¬ b = w.heap.size + 1 := by omega
  have n2 : ¬ w.heap.size + 1 = b := by omega
  have H1 := Lib.hid h1
  clear h1 g1 c6
  go_wp2
  go_end0
  go_wp2
  go_ret
  exact ⟨rfl, Turned.conv_ (Turned.here_ ((Turned.since_ hbl H1.out).new_ hlt (w.heap.size + 1) 0 (by omega) _) 7 _) rfl⟩
end Go.Proofs.Ytdbknbgomcabbaa
