/- AskNext, walked. Conditions: a slice of steps that reads as numbers of their types. -/
import Derived.Test.YtdbknbgomcabbaaAHeld
namespace Go.Proofs.Ytdbknbgomcabbaa
open Go.RowKit

namespace Ak
/-- What happens one tick before the next due one, and at it. -/
structure Nx (start width : Int) (s : St) (T : Int) : Prop where
  nxt : next s = T
  has : hasNext s = true
  gt : s.clock < T
  le : T - s.clock ≤ width
  ge : 0 ≤ T
  top : T ≤ 281474976710656
  m1 : moveErr s (T - 1) = 0
  n1 : number s (T - 1) = 0
  e1 : move s (T - 1) = { s with clock := T - 1 }
  m2 : moveErr { s with clock := T - 1 } T = 0
  n2 : number { s with clock := T - 1 } T = s.asked + 1
  e2 : move { s with clock := T - 1 } T = { s with clock := T, failed := (if s.opn = 0 then s.failed else s.failed + 1), asked := s.asked + 1, opn := s.asked + 1, since := T }

theorem nx_of {start width N lt : Int} {p : Pl} (h : Good start width N lt 700000000000 p) (hw : width ≤ 4294967296) : ∃ T, Nx start width p.st T := by
  obtain ⟨ok, stp, st, wd, clk, one, -⟩ := h
  have hw0 : 1 ≤ width := wd ▸ ok.w1
  have hc : start ≤ p.st.clock := st ▸ ok.c0
  have hs0 : 0 ≤ start := st ▸ ok.s0
  obtain ⟨d0, d1, d2, d3, d4⟩ := due_spec hw0 hc
  have ds : ∀ q, due p.st q = dueOf start width q := fun q => by unfold due; rw [st, wd]
  obtain ⟨D, hD⟩ : ∃ D, D = dueOf start width p.st.clock := ⟨_, rfl⟩
  rw [← hD] at d0 d1 d2 d3 d4
  have hmul : (D + 1) * width = D * width + width := by rw [Int.add_mul, Int.one_mul]
  have hT1 : dueOf start width (start + (D + 1) * width) = D + 1 := by
    unfold dueOf
    rw [show start + (D + 1) * width - start = (D + 1) * width by omega]
    exact Int.mul_ediv_cancel _ (by omega)
  have hT0 : dueOf start width (start + (D + 1) * width - 1) = D := by
    have hle := due_mono hw0 (show p.st.clock ≤ start + (D + 1) * width - 1 by omega) (start := start)
    have sp := due_spec hw0 (show start ≤ start + (D + 1) * width - 1 by omega)
    rw [← hD] at hle
    rcases (show dueOf start width (start + (D + 1) * width - 1) ≤ D ∨ D + 1 ≤ dueOf start width (start + (D + 1) * width - 1) by omega) with h | h
    · omega
    · have := Int.mul_le_mul_of_nonneg_right h (show 0 ≤ width by omega)
      omega
  have hn : nextAt p.st = start + (D + 1) * width := by
    unfold nextAt
    rw [stp, ds, ← hD, st, wd]
    rfl
  generalize hT : start + (D + 1) * width = T at *
  have hh : hasNext p.st = true := by
    unfold hasNext
    rw [hn, decide_eq_false (by omega), decide_eq_false (by omega)]
    rfl
  have mk1 : moveOk p.st (T - 1) = true := by unfold moveOk; rw [decide_eq_false (by omega), decide_eq_false (by omega)]; rfl
  have op1 : opens p.st (T - 1) = false := by
    unfold opens steps
    rw [ds, ds, hT0, ← hD, decide_eq_true (by omega)]
    simp
  have mk2 : moveOk { p.st with clock := T - 1 } T = true := by
    unfold moveOk
    rw [decide_eq_false (by show ¬ T < T - 1; omega), decide_eq_false (by omega)]
    rfl
  have ds2 : ∀ q, due { p.st with clock := T - 1 } q = dueOf start width q := ds
  have st2 : steps { p.st with clock := T - 1 } T = 1 := by
    unfold steps
    rw [ds2, ds2, hT1]
    show D + 1 - dueOf start width (T - 1) = 1
    rw [hT0]; omega
  have op2 : opens { p.st with clock := T - 1 } T = true := by
    unfold opens
    rw [mk2, st2]
    show (true && (_ && !p.st.stopped)) = true
    rw [stp]
    rfl
  refine ⟨T, ?_, hh, by omega, by omega, by omega, by omega, ?_, ?_, ?_, ?_, ?_, ?_⟩
  · unfold next; rw [hh, hn]; rfl
  · unfold moveErr; rw [mk1]; rfl
  · unfold number; rw [op1]; rfl
  · unfold move; rw [mk1, op1]; rfl
  · unfold moveErr; rw [mk2]; rfl
  · unfold number; rw [op2]; rfl
  · unfold move
    rw [mk2, op2]
    show opened _ _ = _
    unfold opened
    rw [ds2, st2, hT1]
    have e1 : p.st.skipped + (1 - 1) = p.st.skipped := by omega
    have e2 : p.st.start + (D + 1) * p.st.width = T := by rw [st, wd, hT]
    simp only [e1, e2]
end Ak

set_option maxRecDepth 100000 in
set_option maxHeartbeats 1000000 in
theorem next_law (start wid : Int) (A : Option Addr) (m c : Nat) (xs : List Ak.Step) (w : World) (h0 : 0 ≤ start) (h1 : start ≤ 4294967295) (h2 : 0 ≤ wid) (h3 : wid ≤ 4294967295) (hs : Smalls w w.heap.size A m c xs) :
    Calls Try.prog 8 #[.int .u32 start, .int .u32 wid, .slice A m c] w fun e w' => e = .returned (.bool true) ∧ Below w.heap.size w w' := by
  have hg := good_of h0 h1 h2 h3 xs hs.fit
  have c0 := awake_any w
  have HS := Lib.hid hs
  clear hs
  go_enter Try.func8, Try.ntmps8
  go_wp2_with fail
  refine c0.mono ?_
  rintro e w1 ⟨rfl, hb1⟩
  clear c0
  have HB1 := Lib.hid hb1
  clear hb1
  go_wp2_with fail
  refine (played_form start wid A m c xs w1 h0 h1 h2 h3 (HS.out.below HB1.out)).mono ?_
  rintro e w2 ⟨A', c', rfl, hr2, -⟩
  generalize Ak.after start (1 + wid) (xs.take 150) = p at *
  obtain ⟨T, hT⟩ := Ak.nx_of hg (by omega)
  have hcl0 := hg.ok.c0
  have hcl1 := hg.clk
  have hcl2 := hg.ok.s0
  have ho0 := hg.ok.o0
  have ho1 := hg.ok.o1
  have ha0 := hg.ok.a0
  have ha1 := hg.ok.a1
  have hf0 := hg.ok.f0
  have hf1 := hg.ok.f1
  have HR2 := Lib.hid hr2
  clear hg hr2
  obtain ⟨t1, t2, t3, t4, t5, t5b, t6, t7, t8, t9, ta, tb⟩ := hT
  have HM1 := Lib.hid t8
  have HM2 := Lib.hid tb
  clear t8 tb
  have q1 : decide (T ≤ p.st.clock) = false := decide_eq_false (by omega)
  have q2 : decide (1 + wid < T - p.st.clock) = false := decide_eq_false (by omega)
  go_wp2_with fail
  refine (next_run HR2.out).mono ?_
  rintro e w3 ⟨rfl, hr3, -⟩
  have HR3 := Lib.hid hr3
  clear hr3
  go_wp2_with fail
  refine (counts_ex HR3.out).mono ?_
  rintro e w4 ⟨rfl, hr4, -⟩
  have HR4 := Lib.hid hr4
  clear hr4
  go_wp2_with fail
  refine (open_held (Held.made (t := p.st) HR4.out)).mono ?_
  rintro e w5 ⟨rfl, hr5⟩
  have HR5 := Lib.hid hr5
  clear hr5
  go_wp2_with fail
  refine (clock_held HR5.out).mono ?_
  rintro e w6 ⟨rfl, hr6⟩
  have HR6 := Lib.hid hr6
  clear hr6
  go_wp2_with fail
  refine (clock_held HR6.out).mono ?_
  rintro e w7 ⟨rfl, hr7⟩
  have HR7 := Lib.hid hr7
  clear hr7
  go_wp2_with fail
  refine (move_held (T - 1) HR7.out (by omega)).mono ?_
  rintro e w8 ⟨rfl, hr8⟩
  have hr8' := HM1.out ▸ hr8
  obtain ⟨k0, k1, k2, k3, k4, k5, k6⟩ := Held.all hr8'
  clear hr8
  go_wp2
  have hbx : Held w1 w1.heap.size (1000 + 1) { p.st with clock := T - 1 } w4.heap.size p.st w8 := hr8'
  clear hr8' k0
  go_region_held3 (fun W => W.cell? ⟨w4.heap.size, 0, none⟩ = some (.int .i64 p.st.asked) ∧ W.cell? ⟨w4.heap.size, 1, none⟩ = some (.int .i64 p.st.good) ∧ W.cell? ⟨w4.heap.size, 2, none⟩ = some (.int .i64 p.st.bad) ∧ W.cell? ⟨w4.heap.size, 3, none⟩ = some (.int .i64 p.st.failed) ∧ W.cell? ⟨w4.heap.size, 4, none⟩ = some (.int .i64 p.st.skipped) ∧ W.cell? ⟨w4.heap.size, 5, none⟩ = some (.int .i64 p.st.late)) (first | (go_keep; done) | exact (Held.all (Held.drew (by assumption))).2 | exact (Held.all (by assumption)).2)
    (first | (go_at_call 19; refine (counts_held (by first | assumption | exact Held.drew (by assumption))).mono ?_; rintro e w9 ⟨rfl, n9⟩))
  have HRA : Hid (Held w1 w1.heap.size (1000 + 1) { p.st with clock := T - 1 } w4.heap.size p.st w9) := Lib.hid (by assumption)
  rcases (show p.st.opn = 0 ∨ 0 < p.st.opn by omega) with ho | ho
  · have hif : (if p.st.opn = 0 then p.st.failed else p.st.failed + 1) = p.st.failed := if_pos ho
    have hdp : decide (0 < p.st.opn) = false := decide_eq_false (by omega)
    go_wp2_with fail
    refine (move_held T HRA.out (by omega)).mono ?_
    rintro e wb ⟨rfl, hrb⟩
    have hrb' := HM2.out ▸ hrb
    rw [hif] at hrb'
    have HRB := Lib.hid hrb'
    clear hrb hrb'
    go_wp2_with fail
    refine (counts_held HRB.out).mono ?_
    rintro e wc ⟨rfl, hrc⟩
    obtain ⟨k0, k1, k2, k3, k4, k5, k6⟩ := Held.all hrc
    have hsz := Held.size hrc
    have HRC := Lib.hid hrc
    clear hrc k0
    have htk : Ak.takes { p.st with clock := T, failed := p.st.failed, asked := p.st.asked + 1, opn := p.st.asked + 1, since := T } (p.st.asked + 1) = true := by
      unfold Ak.takes
      rw [decide_eq_true (by rfl), decide_eq_true (by omega)]
      rfl
    go_wp2_with fail
    refine (answer_took (p.st.asked + 1) true htk (HRC.out.alloc _) (by omega)).mono ?_
    rintro e wd ⟨rfl, s9, hs9, hrd⟩
    have HRD := Lib.hid hrd
    clear hrd k1 k2 k3 k4 k5 k6
    go_wp2_with fail
    refine (answer_zero _ true hs9 HRD.out (by omega)).mono ?_
    rintro e we ⟨rfl, hre⟩
    go_wp2
    go_ret
    exact ⟨rfl, HB1.out.trans (hre.run.below.mono HB1.out.size)⟩
  · have hif : (if p.st.opn = 0 then p.st.failed else p.st.failed + 1) = p.st.failed + 1 := if_neg (by omega)
    have hdp : decide (0 < p.st.opn) = true := decide_eq_true ho
    go_wp2_with fail
    refine (move_held T HRA.out (by omega)).mono ?_
    rintro e wb ⟨rfl, hrb⟩
    have hrb' := HM2.out ▸ hrb
    rw [hif] at hrb'
    have HRB := Lib.hid hrb'
    clear hrb hrb'
    go_wp2_with fail
    refine (counts_held HRB.out).mono ?_
    rintro e wc ⟨rfl, hrc⟩
    obtain ⟨k0, k1, k2, k3, k4, k5, k6⟩ := Held.all hrc
    have hsz := Held.size hrc
    have HRC := Lib.hid hrc
    clear hrc k0
    have htk : Ak.takes { p.st with clock := T, failed := p.st.failed + 1, asked := p.st.asked + 1, opn := p.st.asked + 1, since := T } (p.st.asked + 1) = true := by
      unfold Ak.takes
      rw [decide_eq_true (by rfl), decide_eq_true (by omega)]
      rfl
    go_wp2_with fail
    refine (answer_took (p.st.asked + 1) true htk (HRC.out.alloc _) (by omega)).mono ?_
    rintro e wd ⟨rfl, s9, hs9, hrd⟩
    have HRD := Lib.hid hrd
    clear hrd k1 k2 k3 k4 k5 k6
    go_wp2_with fail
    refine (answer_zero _ true hs9 HRD.out (by omega)).mono ?_
    rintro e we ⟨rfl, hre⟩
    go_wp2
    go_ret
    exact ⟨rfl, HB1.out.trans (hre.run.below.mono HB1.out.size)⟩
end Go.Proofs.Ytdbknbgomcabbaa
