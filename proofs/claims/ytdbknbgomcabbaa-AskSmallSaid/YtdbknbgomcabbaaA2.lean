/- The methods of an Ask, walked (2): Move. Conditions: the receiver is an Ask that was made, its numbers in bounds. -/
import Derived.Test.YtdbknbgomcabbaaA1
import Derived.Deep.RegionHeld3
namespace Go.Proofs.Ytdbknbgomcabbaa
open Go.RowKit

theorem Has.as_ {w : World} {g : Nat} {t : TypeId} {cs cs' : Array Value} (h : Has w g t cs) (e : cs = cs') : Has w g t cs' := e ▸ h

/-- The boxes of a call, and the Ask, as the closure of Move leaves them. -/
structure Moved (w w' : World) (b eb mb : Nat) (s : Ak.St) (err num : Int) : Prop where
  os : w'.os = w.os
  tape : w'.tape = w.tape
  output : w'.output = w.output
  size : w.heap.size ≤ w'.heap.size
  block : ∀ k, k < w.heap.size → k ≠ b → k ≠ eb → k ≠ mb → w'.heap[k]? = w.heap[k]?
  at_ : At w' b s
  err : Has w' eb 34 #[.int .i64 err]
  num : Has w' mb 3 #[.int .i64 num]

set_option maxHeartbeats 1000000 in
theorem move1_no (b nb ab eb mb : Nat) (s : Ak.St) (now : Int) (w : World) (hb : At w b s) (hn : Has w nb 3 #[.int .i64 now]) (ha : Has w ab 28 #[.pointer (some ⟨b, 0, none⟩)]) (he : Has w eb 34 #[.int .i64 0]) (hm : Has w mb 3 #[.int .i64 0])
    (h1 : b ≠ eb) (h3 : eb ≠ mb) (hk : Ak.moveOk s now = false) :
    Calls Try.prog 26 #[.pointer (some ⟨nb, 0, none⟩), .pointer (some ⟨ab, 0, none⟩), .pointer (some ⟨eb, 0, none⟩), .pointer (some ⟨mb, 0, none⟩)] w fun e w' => e = .returned (.tuple #[]) ∧ Moved w w' b eb mb s 320 0 := by
  have hc := Has.cell hb
  have cn := hn.cell 0
  have ca := ha.cell 0
  have ce := he.cell 0
  have fe := he.free 0
  have HB := Lib.hid hb
  have HE := Lib.hid he
  have HM := Lib.hid hm
  unfold cells at hc
  clear hb hn ha he hm
  rcases (show now < s.clock ∨ ¬ now < s.clock by omega) with g | g
  · have hd : decide (now < s.clock) = true := by simpa using g
    clear hk
    go_enter Try.func26, Try.ntmps26
    go_wp2
    go_quiet (fail)
    go_wp2
    first | go_end0 | refine bodyPost_ret (results_none rfl _ _ _) rfl ?_
    refine ⟨rfl, rfl, rfl, rfl, by simp [World.setCell], fun k hk k1 k2 k3 => Below.heap_setCell _ _ _ _ (by simpa using k2), Has.there (t := 32) (Has.drewN_ HB.out _) (by simpa using h1) _, Has.here (Has.drewN_ HE.out _) 0 _, Has.there (Has.drewN_ HM.out _) (by simpa using h3.symm) _⟩
  · have hd : decide (now < s.clock) = false := by simpa using g
    have g2 : 281474976710656 < now := by
      simp only [Ak.moveOk, Bool.not_eq_false', Bool.or_eq_true, decide_eq_true_eq] at hk
      omega
    clear hk
    go_enter Try.func26, Try.ntmps26
    go_wp2
    go_quiet (fail)
    go_wp2
    first | go_end0 | refine bodyPost_ret (results_none rfl _ _ _) rfl ?_
    refine ⟨rfl, rfl, rfl, rfl, by simp [World.setCell], fun k hk k1 k2 k3 => Below.heap_setCell _ _ _ _ (by simpa using k2), Has.there (t := 32) (Has.drewN_ HB.out _) (by simpa using h1) _, Has.here (Has.drewN_ HE.out _) 0 _, Has.there (Has.drewN_ HM.out _) (by simpa using h3.symm) _⟩

theorem due_quiet (b : Nat) (s : Ak.St) (now : Int) (w : World) (n : Nat) (hb : At w b s) (hw : 1 ≤ s.width) (hw2 : s.width ≤ 1099511627776) (h0 : 0 ≤ s.start) (hn : s.start ≤ now) (hn2 : now ≤ 281474976710656) :
    Calls Try.prog 27 #[.pointer (some ⟨b, 0, none⟩), .int .i64 now] (w.drewN n) fun e w' => e = .returned (.int .i64 (Ak.due s now)) ∧ ∃ m, w' = w.drewN m :=
  (due_any b s now (w.drewN n) (Has.drewN_ hb n) hw hw2 h0 hn hn2).mono fun _ _ ⟨he, m, hm⟩ => ⟨he, n + m, by rw [hm, World.drewN_drewN]⟩

theorem due_quiet2 (b : Nat) (s : Ak.St) (now : Int) (w : World) (a n : Nat) (hb : At w b s) (hw : 1 ≤ s.width) (hw2 : s.width ≤ 1099511627776) (h0 : 0 ≤ s.start) (hn : s.start ≤ now) (hn2 : now ≤ 281474976710656) :
    Calls Try.prog 27 #[.pointer (some ⟨b, 0, none⟩), .int .i64 now] (w.drewN (a + n)) fun e w' => e = .returned (.int .i64 (Ak.due s now)) ∧ ∃ m, w' = w.drewN (a + m) :=
  (due_any b s now (w.drewN (a + n)) (Has.drewN_ hb _) hw hw2 h0 hn hn2).mono fun _ _ ⟨he, m, hm⟩ => ⟨he, n + m, by rw [hm, World.drewN_drewN, Nat.add_assoc]⟩

theorem Ak.Ok.mono_ {N : Int} {s : Ak.St} (h : Ak.Ok N s) {now : Int} (hk : Ak.moveOk s now = true) : s.clock ≤ now ∧ now ≤ 281474976710656 ∧ Ak.due s s.clock ≤ Ak.due s now ∧ 0 ≤ Ak.due s s.clock ∧ Ak.due s now ≤ 281474976710656 ∧ 0 ≤ Ak.due s now * s.width ∧ Ak.due s now * s.width ≤ now - s.start := by
  simp only [Ak.moveOk, Bool.not_eq_true', Bool.or_eq_false_iff, decide_eq_false_iff_not] at hk
  have h0 := h.c0
  have h1 := h.s0
  have a := Ak.due_spec h.w1 (show s.start ≤ now by omega)
  have c := Ak.due_spec h.w1 h.c0
  have m := Ak.due_mono h.w1 (show s.clock ≤ now by omega) (start := s.start)
  unfold Ak.due
  omega

set_option maxHeartbeats 1000000 in
theorem move1_still (b nb ab eb mb : Nat) (N : Int) (s : Ak.St) (now : Int) (w : World) (hb : At w b s) (hn : Has w nb 3 #[.int .i64 now]) (ha : Has w ab 28 #[.pointer (some ⟨b, 0, none⟩)]) (he : Has w eb 34 #[.int .i64 0]) (hm : Has w mb 3 #[.int .i64 0])
    (hs : Ak.Ok N s) (h1 : b ≠ eb) (h2 : b ≠ mb) (hk : Ak.moveOk s now = true) (ho : Ak.opens s now = false) :
    Calls Try.prog 26 #[.pointer (some ⟨nb, 0, none⟩), .pointer (some ⟨ab, 0, none⟩), .pointer (some ⟨eb, 0, none⟩), .pointer (some ⟨mb, 0, none⟩)] w fun e w' => e = .returned (.tuple #[]) ∧ Moved w w' b eb mb { s with clock := now } 0 0 := by
  have hc := Has.cell hb
  have hf := Has.free hb
  have cn := hn.cell 0
  have ca := ha.cell 0
  have HB := Lib.hid hb
  have HE := Lib.hid he
  have HM := Lib.hid hm
  obtain ⟨g0, g1, g2, g3, g4, _, _⟩ := hs.mono_ hk
  have hw1 := hs.w1
  have hw2 := hs.w2
  have hs0 := hs.s0
  have hc0 := hs.c0
  have hd1 : decide (now < s.clock) = false := by simp; omega
  have hd2 : decide (281474976710656 < now) = false := by simp; omega
  have hst : (Ak.due s now - Ak.due s s.clock == 0) = true ∨ (Ak.due s now - Ak.due s s.clock == 0) = false ∧ s.stopped = true := by
    simp only [Ak.opens, hk, Bool.true_and, Bool.and_eq_false_iff, Bool.not_eq_false', Ak.steps] at ho
    by_cases h : Ak.due s now - Ak.due s s.clock = 0
    · left; simpa using h
    · right; exact ⟨by simpa using h, ho.resolve_left (fun hh => h (of_decide_eq_true hh))⟩
  have HQ := Lib.hid hst
  have e1 : IntKind.i64.wrap (Ak.due s now - Ak.due s s.clock) = Ak.due s now - Ak.due s s.clock := IntWalk.i64_in _ (by omega)
  unfold cells at hc
  clear hb hn ha he hm hk ho hst hs
  rcases HQ.out with q1 | ⟨q1, q2⟩
  all_goals
    go_enter Try.func26, Try.ntmps26
    go_wp2
    go_quiet (fail)
    go_wp2
    go_quiet ((go_at_call 27; first | exact due_quiet2 b s _ _ _ _ HB.out hw1 hw2 hs0 (by omega) (by omega) | exact due_quiet b s _ _ _ HB.out hw1 hw2 hs0 (by omega) (by omega) | exact due_any b s _ _ HB.out hw1 hw2 hs0 (by omega) (by omega)))
    go_wp2
    refine bodyPost_ret (results_none rfl _ _ _) rfl ?_
    refine ⟨rfl, rfl, rfl, rfl, by simp [World.setCell], fun k hk k1 k2 k3 => Below.heap_setCell _ _ _ _ (by simpa using k1), Has.as_ (Has.here (t := 32) (Has.drewN_ HB.out _) 10 _) rfl, Has.there (Has.drewN_ HE.out _) (by simpa using h1.symm) _, Has.there (Has.drewN_ HM.out _) (by simpa using h2.symm) _⟩

theorem Ak.fail_keeps (s : Ak.St) : (Ak.fail s).asked = s.asked ∧ (Ak.fail s).good = s.good ∧ (Ak.fail s).bad = s.bad ∧ (Ak.fail s).skipped = s.skipped ∧ (Ak.fail s).late = s.late ∧ (Ak.fail s).stopped = s.stopped ∧ (Ak.fail s).start = s.start ∧ (Ak.fail s).width = s.width ∧ (Ak.fail s).clock = s.clock ∧
    (Ak.fail s).failed = (if s.opn = 0 then s.failed else s.failed + 1) := by
  unfold Ak.fail
  split <;> simp_all

set_option maxHeartbeats 2000000 in
theorem move1_opens (b nb ab eb mb : Nat) (N : Int) (s : Ak.St) (now : Int) (w : World) (hb : At w b s) (hn : Has w nb 3 #[.int .i64 now]) (ha : Has w ab 28 #[.pointer (some ⟨b, 0, none⟩)]) (he : Has w eb 34 #[.int .i64 0]) (hm : Has w mb 3 #[.int .i64 0])
    (hs : Ak.Ok N s) (hN : N ≤ 1000000000) (h1 : b ≠ eb) (h2 : b ≠ mb) (h4 : b ≠ nb) (h5 : b ≠ ab) (h6 : mb ≠ nb) (h7 : mb ≠ ab) (h8 : mb ≠ eb) (hk : Ak.moveOk s now = true) (ho : Ak.opens s now = true) :
    Calls Try.prog 26 #[.pointer (some ⟨nb, 0, none⟩), .pointer (some ⟨ab, 0, none⟩), .pointer (some ⟨eb, 0, none⟩), .pointer (some ⟨mb, 0, none⟩)] w fun e w' => e = .returned (.tuple #[]) ∧ Moved w w' b eb mb (Ak.opened s now) 0 (s.asked + 1) := by
  have hc := Has.cell hb
  have hf := Has.free hb
  have cn := hn.cell 0
  have ca := ha.cell 0
  have HB := Lib.hid hb
  have HN := Lib.hid hn
  have HA := Lib.hid ha
  have HE := Lib.hid he
  have HM := Lib.hid hm
  obtain ⟨g0, g1, g2, g3, g4, g5, g6⟩ := hs.mono_ hk
  have hw1 := hs.w1
  have hw2 := hs.w2
  have hs0 := hs.s0
  have hc0 := hs.c0
  have ha0 := hs.a0
  have ha1 := hs.a1
  have hk0 := hs.k0
  have hk1 := hs.k1
  have hf0 := hs.f0
  have hf1 := hs.f1
  have hd1 : decide (now < s.clock) = false := by simp; omega
  have hd2 : decide (281474976710656 < now) = false := by simp; omega
  simp only [Ak.opens, hk, Bool.true_and, Bool.and_eq_true, Bool.not_eq_true', Ak.steps] at ho
  obtain ⟨ho1, ho2⟩ := ho
  have q1 : (Ak.due s now - Ak.due s s.clock == 0) = false := by rw [beq_eq_false_iff_ne]; exact of_decide_eq_false ho1
  have e1 : IntKind.i64.wrap (Ak.due s now - Ak.due s s.clock) = Ak.due s now - Ak.due s s.clock := IntWalk.i64_in _ (by omega)
  unfold cells at hc
  clear hb hn ha he hm hk ho1 hs
  go_enter Try.func26, Try.ntmps26
  go_wp2
  go_quiet (fail)
  go_wp2
  go_quiet ((go_at_call 27; first | exact due_quiet2 b s _ _ _ _ HB.out hw1 hw2 hs0 (by omega) (by omega) | exact due_quiet b s _ _ _ HB.out hw1 hw2 hs0 (by omega) (by omega) | exact due_any b s _ _ HB.out hw1 hw2 hs0 (by omega) (by omega)))
  go_wp2_with fail
  refine (fail_any b { s with clock := now } _ (Has.as_ (Has.here (t := 32) (Has.drewN_ HB.out _) 10 _) rfl) hf0 (by show s.failed ≤ _; omega)).mono ?_
  rintro e w4 ⟨rfl, ht4⟩
  have cb := Has.cell ht4.has
  have fb := Has.free ht4.has
  obtain ⟨k1, k2, k3, k4, k5, k6, k7, k8, k9, k10⟩ := Ak.fail_keeps { s with clock := now }
  dsimp only at k1 k2 k3 k4 k5 k6 k7 k8 k9 k10
  unfold cells at cb
  rw [k1, k2, k3, k4, k5, k6, k7, k8, k9] at cb
  have HN4 := ((Has.drewN_ HN.out _).there (p := ⟨b, 10, none⟩) h4.symm _).grown ht4.grown (by simpa using h4.symm)
  have HA4 := ((Has.drewN_ HA.out _).there (p := ⟨b, 10, none⟩) h5.symm _).grown ht4.grown (by simpa using h5.symm)
  have HE4 := ((Has.drewN_ HE.out _).there (p := ⟨b, 10, none⟩) h1.symm _).grown ht4.grown (by simpa using h1.symm)
  have HM4 := ((Has.drewN_ HM.out _).there (p := ⟨b, 10, none⟩) h2.symm _).grown ht4.grown (by simpa using h2.symm)
  have cn4 := HN4.cell 0
  have ca4 := HA4.cell 0
  have cm4 := HM4.cell 0
  have fm4 := HM4.free 0
  have HT := Lib.hid ht4
  have HN4' := Lib.hid HN4
  have HA4' := Lib.hid HA4
  have HE4' := Lib.hid HE4
  have HM4' := Lib.hid HM4
  have HK := Lib.hid (And.intro k1 (And.intro k2 (And.intro k3 (And.intro k4 (And.intro k5 (And.intro k6 (And.intro k7 (And.intro k8 k9))))))))
  clear ht4 HN4 HA4 HE4 HM4 k1 k2 k3 k4 k5 k6 k7 k8 k9
  have K10 := Lib.hid k10
  clear k10
  generalize Ak.fail { s with clock := now } = fs at *
  have e2 : IntKind.i64.wrap (Ak.due s now - Ak.due s s.clock - 1) = Ak.due s now - Ak.due s s.clock - 1 := IntWalk.i64_in _ (by omega)
  go_wp2_with fail
  obtain ⟨W9, hW9⟩ : ∃ W9, W9 = ((w4.setCell ⟨b, 0, none⟩ (.int .i64 (s.asked + 1))).setCell ⟨b, 4, none⟩ (.int .i64 (s.skipped + (Ak.due s now - Ak.due s s.clock - 1)))).setCell ⟨mb, 0, none⟩ (.int .i64 (s.asked + 1)) := ⟨_, rfl⟩
  rw [← hW9]
  have b9 : Has W9 b 32 #[.int .i64 (s.asked + 1), .int .i64 s.good, .int .i64 s.bad, .int .i64 fs.failed, .int .i64 (s.skipped + (Ak.due s now - Ak.due s s.clock - 1)), .int .i64 s.late, .bool true, .bool s.stopped, .int .i64 s.start, .int .i64 s.width, .int .i64 now, .int .i64 fs.opn, .int .i64 fs.since] := by
    rw [hW9]
    refine Has.there ?_ (by simpa using h2) _
    refine Has.as_ ((HT.out.has.here 0 _).here 4 _) ?_
    obtain ⟨k1, k2, k3, k4, k5, k6, k7, k8, k9⟩ := HK.out
    simp only [cells, k1, k2, k3, k4, k5, k6, k7, k8, k9]
    rfl
  have n9 : Has W9 nb 3 #[.int .i64 now] := by rw [hW9]; exact ((HN4'.out.there (by simpa using h4.symm) _).there (by simpa using h4.symm) _).there (by simpa using h6.symm) _
  have a9 : Has W9 ab 28 #[.pointer (some ⟨b, 0, none⟩)] := by rw [hW9]; exact ((HA4'.out.there (by simpa using h5.symm) _).there (by simpa using h5.symm) _).there (by simpa using h7.symm) _
  have q9 : Has W9 eb 34 #[.int .i64 0] := by rw [hW9]; exact ((HE4'.out.there (by simpa using h1.symm) _).there (by simpa using h1.symm) _).there (by simpa using h8.symm) _
  have m9 : Has W9 mb 3 #[.int .i64 (s.asked + 1)] := by rw [hW9]; exact Has.as_ (((HM4'.out.there (p := ⟨b, 0, none⟩) (by simpa using h2.symm) _).there (p := ⟨b, 4, none⟩) (by simpa using h2.symm) _).here 0 _) rfl
  have x9 : w.heap.size ≤ W9.heap.size ∧ W9.os = w.os ∧ W9.tape = w.tape ∧ W9.output = w.output ∧ ∀ k, k < w.heap.size → k ≠ b → k ≠ mb → W9.heap[k]? = w.heap[k]? := by
    have g := HT.out.grown
    have gs := g.size
    refine ⟨by rw [hW9]; simp [World.setCell] at gs ⊢; exact gs, by rw [hW9]; exact g.os, by rw [hW9]; exact g.tape, by rw [hW9]; exact g.output, fun k hk kb km => ?_⟩
    rw [hW9, Below.heap_setCell _ _ _ _ (by simpa using km), Below.heap_setCell _ _ _ _ (by simpa using kb), Below.heap_setCell _ _ _ _ (by simpa using kb), g.block k (by simpa [World.setCell] using hk) (by simpa using kb)]
    exact Below.heap_setCell _ _ _ _ (by simpa using kb)
  have y1 : W9.cell? ⟨ab, 0, none⟩ = some (.pointer (some ⟨b, 0, none⟩)) := a9.cell 0
  have y2 : W9.cell? ⟨nb, 0, none⟩ = some (.int .i64 now) := n9.cell 0
  have y3 : W9.cell? ⟨mb, 0, none⟩ = some (.int .i64 (s.asked + 1)) := m9.cell 0
  have y4 : W9.cell? ⟨b, 8, none⟩ = some (.int .i64 s.start) := b9.cell 8
  have y5 : W9.cell? ⟨b, 9, none⟩ = some (.int .i64 s.width) := b9.cell 9
  have y6 : W9.cell? ⟨b, 11, none⟩ = some (.int .i64 fs.opn) := b9.cell 11
  have y7 : W9.cell? ⟨b, 12, none⟩ = some (.int .i64 fs.since) := b9.cell 12
  have y8 : W9.frozen? ⟨b, 11, none⟩ = false := b9.free 11
  have y9 : W9.frozen? ⟨b, 12, none⟩ = false := b9.free 12
  have B9 := Lib.hid b9
  have Q9 := Lib.hid q9
  have M9 := Lib.hid m9
  have X9 := Lib.hid x9
  clear b9 q9 m9 n9 a9 x9 cb fb cn4 ca4 cm4 fm4 hc hf cn ca HT HN4' HA4' HE4' HM4' HB HN HA HE HM hW9
  have e3 : IntKind.i64.wrap (Ak.dueOf s.start s.width now * s.width) = Ak.dueOf s.start s.width now * s.width := IntWalk.i64_in _ (by have : Ak.due s now = Ak.dueOf s.start s.width now := rfl; rw [← this]; omega)
  have e4 : IntKind.i64.wrap (s.start + Ak.dueOf s.start s.width now * s.width) = s.start + Ak.dueOf s.start s.width now * s.width := IntWalk.i64_in _ (by have : Ak.due s now = Ak.dueOf s.start s.width now := rfl; rw [← this]; omega)
  go_region_held3 (fun W => W.cell? ⟨ab, 0, none⟩ = some (.pointer (some ⟨b, 0, none⟩)) ∧ W.cell? ⟨nb, 0, none⟩ = some (.int .i64 now) ∧ W.cell? ⟨mb, 0, none⟩ = some (.int .i64 (s.asked + 1)) ∧ W.cell? ⟨b, 8, none⟩ = some (.int .i64 s.start) ∧ W.cell? ⟨b, 9, none⟩ = some (.int .i64 s.width)) (first | (go_keep; done) | (simp [World.cell?_setCell_other, *]; done))
    (first | (go_at_call 27; refine (due_cells b s.start s.width now _ ?_ ?_ hw1 hw2 hs0 (by omega) (by omega)).mono ?_; (simp [*]); (simp [*]); rintro e w9 ⟨rfl, n9, rfl⟩))
  go_end0
  have E : cells (Ak.opened s now) = #[.int .i64 (s.asked + 1), .int .i64 s.good, .int .i64 s.bad, .int .i64 fs.failed, .int .i64 (s.skipped + (Ak.due s now - Ak.due s s.clock - 1)), .int .i64 s.late, .bool true, .bool s.stopped, .int .i64 s.start, .int .i64 s.width, .int .i64 now, .int .i64 (s.asked + 1), .int .i64 (s.start + Ak.dueOf s.start s.width now * s.width)] := by
    unfold cells Ak.opened
    dsimp only
    rw [← K10.out]
    rfl
  obtain ⟨z1, z2, z3, z4, z5⟩ := X9.out
  refine ⟨rfl, z2, z3, z4, by simpa [World.setCell] using z1, fun k hk k1 k2 k3 => ?_, ?_, ?_, ?_⟩
  · rw [Below.heap_setCell _ _ _ _ (by simpa using k1), Below.heap_setCell _ _ _ _ (by simpa using k1)]
    exact z5 k hk k1 k3
  · show Has _ b 32 (cells (Ak.opened s now))
    rw [E]
    exact Has.as_ (((Has.drewN_ B9.out _).here 11 _).here 12 _) rfl
  · exact ((Has.drewN_ Q9.out _).there (by simpa using h1.symm) _).there (by simpa using h1.symm) _
  · exact ((Has.drewN_ M9.out _).there (by simpa using h2.symm) _).there (by simpa using h2.symm) _
end Go.Proofs.Ytdbknbgomcabbaa
