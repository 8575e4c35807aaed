/- AskWrong, walked. Conditions: a slice of steps that reads as numbers of their types. -/
import Derived.Test.YtdbknbgomcabbaaAHeld
namespace Go.Proofs.Ytdbknbgomcabbaa
open Go.RowKit

set_option maxRecDepth 100000 in
set_option maxHeartbeats 1000000 in
theorem wrong_any (start wid : Int) (A : Option Addr) (m c : Nat) (xs : List Ak.Step) (x : Int) (w : World) (h0 : 0 ≤ start) (h1 : start ≤ 4294967295) (h2 : 0 ≤ wid) (h3 : wid ≤ 4294967295) (hs : Smalls w w.heap.size A m c xs) :
    Calls Try.prog 10 #[.int .u32 start, .int .u32 wid, .slice A m c, .int .i64 x] w fun e w' => e = .returned (.bool true) ∧ Below w.heap.size w w' := by
  have hg := good_of h0 h1 h2 h3 xs hs.fit
  obtain ⟨m1, e1, l1, _⟩ := ite_min (-1) x
  obtain ⟨m2, e2, l2, _⟩ := ite_max 281474976710657 x
  have c0 := awake_any w
  have HS := Lib.hid hs
  clear hs
  go_enter Try.func10, Try.ntmps10
  go_wp2_with fail
  refine c0.mono ?_
  rintro e w1 ⟨rfl, hb1⟩
  clear c0
  have HB1 := Lib.hid hb1
  clear hb1
  go_wp2
  go_loopw [34] (fun i wr => ∃ k : Nat, k ≤ 2 ∧ i = .int .i64 k ∧ Below w.heap.size w wr ∧ wr.cell? ⟨w1.heap.size, 0, none⟩ = some (.int .i64 m1) ∧ wr.cell? ⟨w1.heap.size, 1, none⟩ = some (.int .i64 m2) ∧ w1.heap.size < wr.heap.size) (fun i _ => 2 - (intOf i).toNat)
  case atStart => exact ⟨0, by decide, rfl, HB1.out.alloc HB1.out.size _, (Has.made w1 _ _).cell 0, (Has.made w1 _ _).cell 1, by simp⟩
  case round =>
    obtain ⟨k, hk', rfl, hbr, hc0, hc1, hsz⟩ := hrel
    by_cases hlt : k < 2
    · obtain ⟨q, hq, hcq⟩ : ∃ q : Int, (q < 0 ∨ 281474976710656 < q) ∧ wr.cell? ⟨w1.heap.size, k, none⟩ = some (.int .i64 q) := by
        rcases (show k = 0 ∨ k = 1 by omega) with rfl | rfl
        · exact ⟨m1, by omega, hc0⟩
        · exact ⟨m2, by omega, hc1⟩
      obtain ⟨m3, e3, l3, _⟩ := ite_min 0 q
      obtain ⟨m4, e4, l4, _⟩ := ite_max 1099511627777 q
      have HBR := Lib.hid hbr
      have HC0 := Lib.hid hc0
      have HC1 := Lib.hid hc1
      clear hbr hc0 hc1
      go_wp2_with fail
      refine (new_no q 5 wr (by omega)).mono ?_
      rintro e w2 ⟨rfl, rfl⟩
      go_wp2_with fail
      refine (new_no 5 m3 wr (by omega)).mono ?_
      rintro e w2 ⟨rfl, rfl⟩
      go_wp2_with fail
      refine (new_no 5 m4 wr (by omega)).mono ?_
      rintro e w2 ⟨rfl, rfl⟩
      go_wp2
      go_roundw
      case rel => exact ⟨k + 1, by omega, by go_num, HBR.out, HC0.out, HC1.out, hsz⟩
      case measure => simp [intOf]; omega
    · have HBR := Lib.hid hbr
      clear hbr hc0 hc1
      go_wp2_with fail
      refine (played_form start wid A m c xs wr h0 h1 h2 h3 (HS.out.below HBR.out)).mono ?_
      rintro e w2 ⟨A', c', rfl, hr2, -⟩
      generalize Ak.after start (1 + wid) (xs.take 150) = p at *
      have hcl0 := hg.ok.c0
      have hcl1 := hg.ok.c1
      have hcl2 := hg.ok.s0
      have HR2 := Lib.hid hr2
      clear hg hr2
      obtain ⟨m5, e5, l5, _⟩ := ite_min (p.st.clock - 1) x
      obtain ⟨b5, s5, n5⟩ := Ak.move_bad (s := p.st) (t := m5) (by omega)
      obtain ⟨b6, s6, n6⟩ := Ak.move_bad (s := p.st) (t := m2) (by omega)
      have S5 := Lib.hid s5
      have S6 := Lib.hid s6
      clear s5 s6
      go_wp2_with fail
      refine (counts_ex HR2.out).mono ?_
      rintro e w3 ⟨rfl, hr3, -⟩
      have HR3 := Lib.hid hr3
      clear hr3
      go_wp2_with fail
      refine (clock_run HR3.out).mono ?_
      rintro e w4 ⟨rfl, hr4, -⟩
      have HR4 := Lib.hid hr4
      clear hr4
      go_wp2_with fail
      refine (move_held m5 (Held.made (t := p.st) HR4.out) (by omega)).mono ?_
      rintro e w5 ⟨rfl, hr5⟩
      have HR5 := Lib.hid (S5.out ▸ hr5)
      clear hr5
      go_wp2_with fail
      refine (move_held m2 HR5.out (by omega)).mono ?_
      rintro e w6 ⟨rfl, hr6⟩
      have HR6 := Lib.hid (S6.out ▸ hr6)
      clear hr6
      obtain ⟨hx1, hx2, hx3, hx4, hx5, hx6, hx7⟩ := Held.all HR6.out
      go_wp2
      go_region_held3 (fun W => Held wr wr.heap.size (1000 + 1 + 1) p.st w4.heap.size p.st W ∧ W.cell? ⟨w4.heap.size, 0, none⟩ = some (.int .i64 p.st.asked) ∧ W.cell? ⟨w4.heap.size, 1, none⟩ = some (.int .i64 p.st.good) ∧ W.cell? ⟨w4.heap.size, 2, none⟩ = some (.int .i64 p.st.bad) ∧ W.cell? ⟨w4.heap.size, 3, none⟩ = some (.int .i64 p.st.failed) ∧ W.cell? ⟨w4.heap.size, 4, none⟩ = some (.int .i64 p.st.skipped) ∧ W.cell? ⟨w4.heap.size, 5, none⟩ = some (.int .i64 p.st.late)) (first | exact Held.all (Held.drew (by assumption)) | exact Held.all (by assumption))
        (first | (go_at_call 19; refine (counts_held (by first | assumption | exact Held.drew (by assumption))).mono ?_; rintro e w9 ⟨rfl, n9⟩) | (go_at_call 16; refine (clock_held (by first | assumption | exact Held.drew (by assumption))).mono ?_; rintro e w9 ⟨rfl, n9⟩))
      go_wp2
      go_ret
      exact ⟨rfl, HBR.out.trans ((Held.run (W0 := wr) (by first | assumption | exact Held.drew (by assumption))).below.mono HBR.out.size)⟩
end Go.Proofs.Ytdbknbgomcabbaa
