/- 'same', walked: what is told of the throttle and of the reference's state is the same. Conditions: both in memory, numbers in bounds. -/
import Derived.Test.YthbefhpgpebkgaaRefAct0
namespace Go.Proofs.Ythbefhpgpebkgaa
open Go.RowKit

section
variable {b : Nat} {s : Thr.St Int} {wv hv : Value} {w W W0 : World} {N : Int} {hs : List Int}

theorem Ref.waits_ (h : Ref W (b + 1) s hs wv hv) {A : Option Addr} {m c : Nat} (e : wv = .slice A m c) : decide ((0 : Int) < (m : Int)) = s.waits ∧ decide (0 < m) = s.waits := by
  rcases h.wait with ⟨h1, h2⟩ | ⟨h1, g, -, h2, -⟩
  · rw [e] at h2
    injection h2 with _ h3 _
    rw [h1, h3]; exact ⟨rfl, rfl⟩
  · rw [e] at h2
    injection h2 with _ h3 _
    rw [h1, h3]; exact ⟨rfl, rfl⟩

set_option maxRecDepth 100000 in
set_option maxHeartbeats 8000000 in
theorem same_any (h : Both W0 w b N s hs wv hv) :
    Calls Try.prog 50 #[.pointer (some ⟨b, 0, none⟩), .agg #[.int .i64 s.width, .int .i64 s.now, wv, hv, .int .i64 s.offered, .int .i64 s.lost]] w fun e w' => e = .returned (.bool true) ∧ Both W0 w' b N s hs wv hv ∧ Below w.heap.size w w' := by
  obtain ⟨A1, m1, c1, rfl⟩ := h.ref.wshape
  obtain ⟨A2, c2, rfl⟩ := h.ref.hshape
  have htk := h.ref.rf.tk
  obtain ⟨m2, hm2⟩ : ∃ m2, hs.length = m2 := ⟨_, rfl⟩
  rw [hm2] at h htk ⊢
  have ht : (s.taken == (m2 : Int)) = true := by simp; exact htk
  obtain ⟨hw1, hw2⟩ := h.ref.waits_ rfl
  obtain ⟨bw, hbw⟩ : ∃ bw, s.waits = bw := ⟨_, rfl⟩
  rw [hbw] at hw1 hw2
  have HBW := Lib.hid hbw
  have hbl : Below w.heap.size w (w.alloc (.cells #[.int .i64 s.width, .int .i64 s.now, .slice A1 m1 c1, .slice A2 m2 c2, .int .i64 s.offered, .int .i64 s.lost] 81)) := (Below.refl _ _).alloc (Nat.le_refl _) _
  have HH := Lib.hid (h.on_ hbl)
  have HP := Lib.hid (Has.made w 81 #[.int .i64 s.width, .int .i64 s.now, .slice A1 m1 c1, .slice A2 m2 c2, .int .i64 s.offered, .int .i64 s.lost])
  have HL := Lib.hid hbl
  clear hbl h hm2 htk hbw
  go_enter Try.func50, Try.ntmps50
  go_wp2_with fail
  refine (TI.next_run HH.out.run).mono ?_
  rintro e w1 ⟨rfl, -, hb1⟩
  rw [HBW.out]
  have HH1 := Lib.hid (HH.out.on_ hb1)
  have HP1 := Lib.hid (HP.out.below hb1 (Has.lt HP.out))
  have HL1 := Lib.hid (HL.out.trans (hb1.mono HL.out.size))
  have hp := HP1.out.cell
  clear hb1
  go_wp2_with fail
  refine (rnext_any HH1.out.ref HH1.out.run.ok).mono ?_
  rintro e w2 ⟨rfl, hb2⟩
  rw [HBW.out]
  have HH2 := Lib.hid (HH1.out.on_ hb2)
  have HP2 := Lib.hid (HP1.out.below hb2 (Has.lt HP1.out))
  have HL2 := Lib.hid (HL1.out.trans (hb2.mono HL1.out.size))
  clear hb2 hp
  go_wp2_with fail
  refine (TI.counts_run HH2.out.run).mono ?_
  rintro e w3 ⟨rfl, -, hb3⟩
  have HH3 := Lib.hid (HH2.out.on_ hb3)
  have HP3 := Lib.hid (HP2.out.below hb3 (Has.lt HP2.out))
  have HL3 := Lib.hid (HL2.out.trans (hb3.mono HL2.out.size))
  clear hb3
  go_wp2_with fail
  have e0 : w3.cell? ⟨w.heap.size, 0, none⟩ = some (.int .i64 s.width) := HP3.out.cell 0
  have e1 : w3.cell? ⟨w.heap.size, 1, none⟩ = some (.int .i64 s.now) := HP3.out.cell 1
  have e2 : w3.cell? ⟨w.heap.size, 2, none⟩ = some (.slice A1 m1 c1) := HP3.out.cell 2
  have e3 : w3.cell? ⟨w.heap.size, 3, none⟩ = some (.slice A2 m2 c2) := HP3.out.cell 3
  have e4 : w3.cell? ⟨w.heap.size, 4, none⟩ = some (.int .i64 s.offered) := HP3.out.cell 4
  have e5 : w3.cell? ⟨w.heap.size, 5, none⟩ = some (.int .i64 s.lost) := HP3.out.cell 5
  go_region_held3 (fun W => W.cell? ⟨w.heap.size, 0, none⟩ = some (.int .i64 s.width) ∧ W.cell? ⟨w.heap.size, 1, none⟩ = some (.int .i64 s.now) ∧ W.cell? ⟨w.heap.size, 2, none⟩ = some (.slice A1 m1 c1) ∧ W.cell? ⟨w.heap.size, 3, none⟩ = some (.slice A2 m2 c2) ∧
      W.cell? ⟨w.heap.size, 4, none⟩ = some (.int .i64 s.offered) ∧ W.cell? ⟨w.heap.size, 5, none⟩ = some (.int .i64 s.lost))
    (go_keep)
    (first
      | (go_at_call 15; refine (TI.ready_run HH3.out.run.drew_).mono ?_; rintro e w4 ⟨rfl, -, hb4⟩; have HH4 := Lib.hid ((HH3.out.on_ (Below.refl _ _).drew).on_ hb4); have HP4 := Lib.hid (HP3.out.drew.below hb4 (Has.lt HP3.out.drew)); have HL4 := Lib.hid (HL3.out.drew.trans (hb4.mono HL3.out.drew.size)); have e0 : w4.cell? ⟨w.heap.size, 0, none⟩ = some (.int .i64 s.width) := HP4.out.cell 0; have e1 : w4.cell? ⟨w.heap.size, 1, none⟩ = some (.int .i64 s.now) := HP4.out.cell 1; have e2 : w4.cell? ⟨w.heap.size, 2, none⟩ = some (.slice A1 m1 c1) := HP4.out.cell 2; have e3 : w4.cell? ⟨w.heap.size, 3, none⟩ = some (.slice A2 m2 c2) := HP4.out.cell 3; have e4 : w4.cell? ⟨w.heap.size, 4, none⟩ = some (.int .i64 s.offered) := HP4.out.cell 4; have e5 : w4.cell? ⟨w.heap.size, 5, none⟩ = some (.int .i64 s.lost) := HP4.out.cell 5; clear hb4)
      | (go_at_call 67; refine (rready_any HH4.out.ref HH4.out.run.ok).mono ?_; rintro e w5 ⟨rfl, hb5⟩; have HH5 := Lib.hid (HH4.out.on_ hb5); have HP5 := Lib.hid (HP4.out.below hb5 (Has.lt HP4.out)); have HL5 := Lib.hid (HL4.out.trans (hb5.mono HL4.out.size)); have e0 : w5.cell? ⟨w.heap.size, 0, none⟩ = some (.int .i64 s.width) := HP5.out.cell 0; have e1 : w5.cell? ⟨w.heap.size, 1, none⟩ = some (.int .i64 s.now) := HP5.out.cell 1; have e2 : w5.cell? ⟨w.heap.size, 2, none⟩ = some (.slice A1 m1 c1) := HP5.out.cell 2; have e3 : w5.cell? ⟨w.heap.size, 3, none⟩ = some (.slice A2 m2 c2) := HP5.out.cell 3; have e4 : w5.cell? ⟨w.heap.size, 4, none⟩ = some (.int .i64 s.offered) := HP5.out.cell 4; have e5 : w5.cell? ⟨w.heap.size, 5, none⟩ = some (.int .i64 s.lost) := HP5.out.cell 5; clear hb5)
      | (go_at_call 27; refine (TI.waits_run HH5.out.run).mono ?_; rintro e w6 ⟨he, -, hb6⟩; rw [HBW.out] at he; subst he; have HH6 := Lib.hid (HH5.out.on_ hb6); have HP6 := Lib.hid (HP5.out.below hb6 (Has.lt HP5.out)); have HL6 := Lib.hid (HL5.out.trans (hb6.mono HL5.out.size)); have e0 : w6.cell? ⟨w.heap.size, 0, none⟩ = some (.int .i64 s.width) := HP6.out.cell 0; have e1 : w6.cell? ⟨w.heap.size, 1, none⟩ = some (.int .i64 s.now) := HP6.out.cell 1; have e2 : w6.cell? ⟨w.heap.size, 2, none⟩ = some (.slice A1 m1 c1) := HP6.out.cell 2; have e3 : w6.cell? ⟨w.heap.size, 3, none⟩ = some (.slice A2 m2 c2) := HP6.out.cell 3; have e4 : w6.cell? ⟨w.heap.size, 4, none⟩ = some (.int .i64 s.offered) := HP6.out.cell 4; have e5 : w6.cell? ⟨w.heap.size, 5, none⟩ = some (.int .i64 s.lost) := HP6.out.cell 5; clear hb6))
  go_wp2
  go_ret
  exact ⟨rfl, HH6.out, HL6.out⟩
end
end Go.Proofs.Ythbefhpgpebkgaa
