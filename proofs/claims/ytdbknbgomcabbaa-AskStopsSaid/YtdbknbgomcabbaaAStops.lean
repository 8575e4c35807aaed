/- AskStops, walked. Conditions: a slice of steps that reads as numbers of their types. -/
import Derived.Test.YtdbknbgomcabbaaAHeld
namespace Go.Proofs.Ytdbknbgomcabbaa
open Go.RowKit

namespace Ak
theorem stop_stopped (s : St) : (stop s).stopped = true := rfl
theorem stop_opn (s : St) : (stop s).opn = 0 ∧ ((stop s).since = 0 ∨ (s.opn = 0 ∧ (stop s).since = s.since)) := by
  unfold stop fail
  split
  · rename_i h; exact ⟨h, .inr ⟨h, rfl⟩⟩
  · exact ⟨rfl, .inl rfl⟩
theorem stop_clock (s : St) : (stop s).clock = s.clock := by unfold stop fail; split <;> rfl
theorem move_stopped {s : St} {t : Int} (h : s.stopped = true) (hm : moveOk s t = true) : move s t = { s with clock := t } ∧ moveErr s t = 0 ∧ number s t = 0 := by
  have ho : opens s t = false := by unfold opens; rw [h]; simp
  unfold move moveErr number
  rw [hm, ho]
  exact ⟨rfl, rfl, rfl⟩
theorem stop_fails (s : St) : fails (stop s) = false := by unfold fails; rw [(stop_opn s).1]; rfl
theorem stop_again {s : St} (h : s.stopped = true) (ho : s.opn = 0) : stop s = s := by
  unfold stop fail
  rw [if_pos ho, ← h]
theorem next_stopped {s : St} (h : s.stopped = true) : next s = 0 ∧ hasNext s = false := by
  have e : nextAt s = 0 := by unfold nextAt; rw [h]; rfl
  have e2 : hasNext s = false := by unfold hasNext; rw [e]; rfl
  exact ⟨by unfold next; rw [e2]; rfl, e2⟩
theorem stop_form {s : St} (h : s.since = 0 ∨ s.opn ≠ 0) : stop s = { s with opn := 0, since := 0, stopped := true, failed := (if s.opn = 0 then s.failed else s.failed + 1) } := by
  obtain ⟨a, b, c, d, e, f, g, st, w, cl, o, si⟩ := s
  by_cases ho : o = 0
  · subst ho
    have hs : si = 0 := by simpa using h
    subst hs
    rfl
  · simp [stop, fail, ho]
end Ak

set_option maxRecDepth 100000 in
set_option maxHeartbeats 1000000 in
theorem stops_any (start wid : Int) (A : Option Addr) (m c : Nat) (xs : List Ak.Step) (x : Int) (w : World) (h0 : 0 ≤ start) (h1 : start ≤ 4294967295) (h2 : 0 ≤ wid) (h3 : wid ≤ 4294967295) (hs : Smalls w w.heap.size A m c xs) (hx0 : 0 ≤ x) (hx1 : x ≤ 4294967295) :
    Calls Try.prog 9 #[.int .u32 start, .int .u32 wid, .slice A m c, .int .u32 x] w fun e w' => e = .returned (.bool true) ∧ Below w.heap.size w w' := by
  have hg := good_of h0 h1 h2 h3 xs hs.fit
  have c0 := awake_any w
  have HS := Lib.hid hs
  clear hs
  go_enter Try.func9, Try.ntmps9
  go_wp2_with fail
  refine c0.mono ?_
  rintro e w1 ⟨rfl, hb1⟩
  clear c0
  have HB1 := Lib.hid hb1
  clear hb1
  go_wp2_with fail
  refine (played_form start wid A m c xs w1 h0 h1 h2 h3 (HS.out.below HB1.out)).mono ?_
  rintro e w2 ⟨A', c', rfl, hr2, -⟩
  generalize Ak.after start (1 + wid) (xs.take 150) = p at *
  have hst : p.st.since = 0 ∨ p.st.opn ≠ 0 := by
    rcases hg.op with h | h
    · exact .inl h.2
    · have := hg.one; exact .inr (by omega)
  have hcl0 := hg.ok.c0
  have hcl1 := hg.clk
  have hcl2 := hg.ok.s0
  have ho0 := hg.ok.o0
  have ha0 := hg.ok.a0
  have ha1 := hg.ok.a1
  have ha2 := hg.ok.f0
  have ha3 := hg.ok.f1
  have HR2 := Lib.hid hr2
  clear hg hr2
  obtain ⟨t1, t2⟩ := Ak.stop_opn p.st
  have t3 : (Ak.stop p.st).since = 0 := by
    rcases t2 with h | ⟨h, h'⟩
    · exact h
    · rcases hst with h4 | h4
      · rw [h', h4]
      · exact absurd h h4
  have t4 := Ak.stop_stopped p.st
  have t5 := Ak.stop_clock p.st
  have t6 := Ak.stop_fails p.st
  have t7 := Ak.stop_again t4 t1
  have hmk : Ak.moveOk (Ak.stop p.st) (p.st.clock + x) = true := by
    unfold Ak.moveOk
    rw [t5, decide_eq_false (by omega), decide_eq_false (by omega)]
    rfl
  obtain ⟨u1, u2, u3⟩ := Ak.move_stopped t4 hmk
  have HS7 := Lib.hid t7
  have HS8 := Lib.hid u1
  have HTA := Lib.hid (Ak.stop_form hst)
  clear t7 u1 hmk hst t2
  have hf : Ak.fails p.st = decide (0 < p.st.opn) := by
    unfold Ak.fails
    rcases (show p.st.opn = 0 ∨ 0 < p.st.opn by omega) with h | h
    · rw [decide_eq_true h, decide_eq_false (by omega)]; rfl
    · rw [decide_eq_false (by omega), decide_eq_true h]; rfl
  go_wp2_with fail
  refine (counts_ex HR2.out).mono ?_
  rintro e w3 ⟨rfl, hr3, -⟩
  have HR3 := Lib.hid hr3
  clear hr3
  go_wp2_with fail
  refine (open_held (Held.made (t := p.st) HR3.out)).mono ?_
  rintro e w4 ⟨rfl, hr4⟩
  have HR4 := Lib.hid hr4
  clear hr4
  rcases (show p.st.opn = 0 ∨ 0 < p.st.opn by omega) with ho | ho
  · have hif : (if p.st.opn = 0 then p.st.failed else p.st.failed + 1) = p.st.failed := if_pos ho
    have hdp : decide (0 < p.st.opn) = false := decide_eq_false (by omega)
    rw [hdp] at hf
    go_wp2_with fail
    refine (stop_held HR4.out (by omega)).mono ?_
    rintro e w5 ⟨rfl, hr5⟩
    have HR5 := Lib.hid hr5
    clear hr5
    go_wp2_with fail
    refine (stop_held HR5.out (by omega)).mono ?_
    rintro e w6 ⟨rfl, hr6⟩
    have hr6' : Held w1 w1.heap.size (1000 + 1 + 1) { p.st with opn := 0, since := 0, stopped := true, failed := p.st.failed } w3.heap.size p.st w6 := by rw [← hif, ← HTA.out]; exact HS7.out ▸ hr6
    obtain ⟨k0, k1, k2, k3, k4, k5, k6⟩ := Held.all hr6'
    have kf := hr6'.tal.free
    have HR6 := Lib.hid hr6'
    have HU : Hid (Ak.move { p.st with opn := 0, since := 0, stopped := true, failed := p.st.failed } (p.st.clock + x) = { p.st with opn := 0, since := 0, stopped := true, failed := p.st.failed, clock := p.st.clock + x } ∧ Ak.moveErr { p.st with opn := 0, since := 0, stopped := true, failed := p.st.failed } (p.st.clock + x) = 0 ∧ Ak.number { p.st with opn := 0, since := 0, stopped := true, failed := p.st.failed } (p.st.clock + x) = 0) := by
      show _ ∧ _ ∧ _
      have e := HTA.out
      rw [hif] at e
      rw [← e]
      refine ⟨HS8.out.trans ?_, u2, u3⟩
      rw [e]
    clear hr6 hr6' k0
    have hclk : ({ p.st with opn := 0, since := 0, stopped := true, failed := p.st.failed } : Ak.St).clock = p.st.clock := rfl
    go_wp2_with fail
    refine (clock_held HR6.out).mono ?_
    rintro e w7 ⟨rfl, hr7⟩
    have HR7 := Lib.hid hr7
    clear hr7 k1 k2 k3 k4 k5 k6 kf
    go_wp2_with fail
    refine (move_held (p.st.clock + x) HR7.out (by omega)).mono ?_
    rintro e w8 ⟨rfl, hr8⟩
    obtain ⟨v1, v2, v3⟩ := HU.out
    have HR8 := Lib.hid (v1 ▸ hr8)
    clear hr8 v1
    go_wp2_with fail
    refine (open_held HR8.out).mono ?_
    rintro e w9 ⟨rfl, hr9⟩
    have HR9 := Lib.hid hr9
    clear hr9
    obtain ⟨u4, u5⟩ := Ak.next_stopped (s := { p.st with opn := 0, since := 0, stopped := true, failed := p.st.failed, clock := p.st.clock + x }) rfl
    go_wp2_with fail
    refine (next_held HR9.out).mono ?_
    rintro e wa ⟨rfl, hra⟩
    obtain ⟨k0, k1, k2, k3, k4, k5, k6⟩ := Held.all hra
    have HRA := Lib.hid hra
    have hz : decide (IntKind.i64.wrap (0 + 0) = 0) = true := by decide
    go_wp2
    go_region_held3 (fun W => W.cell? ⟨w3.heap.size, 0, none⟩ = some (.int .i64 p.st.asked) ∧ W.cell? ⟨w3.heap.size, 1, none⟩ = some (.int .i64 p.st.good) ∧ W.cell? ⟨w3.heap.size, 2, none⟩ = some (.int .i64 p.st.bad) ∧ W.cell? ⟨w3.heap.size, 3, none⟩ = some (.int .i64 (p.st.failed)) ∧ W.cell? ⟨w3.heap.size, 4, none⟩ = some (.int .i64 p.st.skipped) ∧ W.cell? ⟨w3.heap.size, 5, none⟩ = some (.int .i64 p.st.late)) (first | (go_keep; done) | exact (Held.all (Held.drew (by assumption))).2 | exact (Held.all (by assumption)).2)
      (first | (go_at_call 19; refine (counts_held (by first | assumption | exact Held.drew (by assumption))).mono ?_; rintro e w9 ⟨rfl, n9⟩) | (go_at_call 16; refine (clock_held (by first | assumption | exact Held.drew (by assumption))).mono ?_; rintro e w9 ⟨rfl, n9⟩) | (go_at_call 17; refine (answer_zero _ _ rfl (by first | assumption | exact Held.drew (by assumption)) (by omega)).mono ?_; rintro e w9 ⟨rfl, n9⟩))
    go_wp2
    go_ret
    exact ⟨rfl, HB1.out.trans ((Held.run (W0 := w1) (by first | assumption | exact Held.drew (by assumption))).below.mono HB1.out.size)⟩
  · have hif : (if p.st.opn = 0 then p.st.failed else p.st.failed + 1) = p.st.failed + 1 := if_neg (by omega)
    have hdp : decide (0 < p.st.opn) = true := decide_eq_true ho
    rw [hdp] at hf
    go_wp2_with fail
    refine (stop_held HR4.out (by omega)).mono ?_
    rintro e w5 ⟨rfl, hr5⟩
    have HR5 := Lib.hid hr5
    clear hr5
    go_wp2_with fail
    refine (stop_held HR5.out (by omega)).mono ?_
    rintro e w6 ⟨rfl, hr6⟩
    have hr6' : Held w1 w1.heap.size (1000 + 1 + 1) { p.st with opn := 0, since := 0, stopped := true, failed := p.st.failed + 1 } w3.heap.size p.st w6 := by rw [← hif, ← HTA.out]; exact HS7.out ▸ hr6
    obtain ⟨k0, k1, k2, k3, k4, k5, k6⟩ := Held.all hr6'
    have kf := hr6'.tal.free
    have HR6 := Lib.hid hr6'
    have HU : Hid (Ak.move { p.st with opn := 0, since := 0, stopped := true, failed := p.st.failed + 1 } (p.st.clock + x) = { p.st with opn := 0, since := 0, stopped := true, failed := p.st.failed + 1, clock := p.st.clock + x } ∧ Ak.moveErr { p.st with opn := 0, since := 0, stopped := true, failed := p.st.failed + 1 } (p.st.clock + x) = 0 ∧ Ak.number { p.st with opn := 0, since := 0, stopped := true, failed := p.st.failed + 1 } (p.st.clock + x) = 0) := by
      show _ ∧ _ ∧ _
      have e := HTA.out
      rw [hif] at e
      rw [← e]
      refine ⟨HS8.out.trans ?_, u2, u3⟩
      rw [e]
    clear hr6 hr6' k0
    have HRB := Lib.hid HR6.out.bump
    have hclk : ({ p.st with opn := 0, since := 0, stopped := true, failed := p.st.failed + 1 } : Ak.St).clock = p.st.clock := rfl
    go_wp2_with fail
    refine (clock_held HRB.out).mono ?_
    rintro e w7 ⟨rfl, hr7⟩
    have HR7 := Lib.hid hr7
    clear hr7 k1 k2 k3 k4 k5 k6 kf
    go_wp2_with fail
    refine (move_held (p.st.clock + x) HR7.out (by omega)).mono ?_
    rintro e w8 ⟨rfl, hr8⟩
    obtain ⟨v1, v2, v3⟩ := HU.out
    have HR8 := Lib.hid (v1 ▸ hr8)
    clear hr8 v1
    go_wp2_with fail
    refine (open_held HR8.out).mono ?_
    rintro e w9 ⟨rfl, hr9⟩
    have HR9 := Lib.hid hr9
    clear hr9
    obtain ⟨u4, u5⟩ := Ak.next_stopped (s := { p.st with opn := 0, since := 0, stopped := true, failed := p.st.failed + 1, clock := p.st.clock + x }) rfl
    go_wp2_with fail
    refine (next_held HR9.out).mono ?_
    rintro e wa ⟨rfl, hra⟩
    obtain ⟨k0, k1, k2, k3, k4, k5, k6⟩ := Held.all hra
    have HRA := Lib.hid hra
    have hz : decide (IntKind.i64.wrap (0 + 0) = 0) = true := by decide
    go_wp2
    go_region_held3 (fun W => W.cell? ⟨w3.heap.size, 0, none⟩ = some (.int .i64 p.st.asked) ∧ W.cell? ⟨w3.heap.size, 1, none⟩ = some (.int .i64 p.st.good) ∧ W.cell? ⟨w3.heap.size, 2, none⟩ = some (.int .i64 p.st.bad) ∧ W.cell? ⟨w3.heap.size, 3, none⟩ = some (.int .i64 (p.st.failed + 1)) ∧ W.cell? ⟨w3.heap.size, 4, none⟩ = some (.int .i64 p.st.skipped) ∧ W.cell? ⟨w3.heap.size, 5, none⟩ = some (.int .i64 p.st.late)) (first | (go_keep; done) | exact (Held.all (Held.drew (by assumption))).2 | exact (Held.all (by assumption)).2)
      (first | (go_at_call 19; refine (counts_held (by first | assumption | exact Held.drew (by assumption))).mono ?_; rintro e w9 ⟨rfl, n9⟩) | (go_at_call 16; refine (clock_held (by first | assumption | exact Held.drew (by assumption))).mono ?_; rintro e w9 ⟨rfl, n9⟩) | (go_at_call 17; refine (answer_zero _ _ rfl (by first | assumption | exact Held.drew (by assumption)) (by omega)).mono ?_; rintro e w9 ⟨rfl, n9⟩))
    go_wp2
    go_ret
    exact ⟨rfl, HB1.out.trans ((Held.run (W0 := w1) (by first | assumption | exact Held.drew (by assumption))).below.mono HB1.out.size)⟩
end Go.Proofs.Ytdbknbgomcabbaa
