/- 'same', walked: an Ask and the reference's state tell the same. Conditions: both in memory, numbers in bounds. -/
import Derived.Test.YtdbknbgomcabbaaBFn4
namespace Go.Proofs.Ytdbknbgomcabbaa
open Go.RowKit

/-- The Ask at b, and the reference's state, behind a call that began in world W0. -/
structure Both (W0 W : World) (b : Nat) (N : Int) (s : Ak.St) (rs : List Ak.Req) (hv : Value) : Prop where
  run : Run W0 W b N s
  row : Row W (b + 1) rs hv
  rf : Ak.Rf s rs

/-- Both, beside the box of a state that a call (begun in world w0) has. -/
structure Sm (W0 w0 : World) (b : Nat) (N : Int) (s : Ak.St) (rs : List Ak.Req) (A : Option Addr) (c : Nat) (W : World) : Prop where
  both : Both W0 W b N s rs (.slice A rs.length c)
  p : Has W w0.heap.size 61 #[.int .i64 s.start, .int .i64 s.width, .int .i64 s.clock, .bool s.stopped, .slice A rs.length c, .int .i64 s.skipped, .int .i64 s.late]
  below : Below w0.heap.size w0 W
  big : N ≤ 1000000

section
variable {W0 w0 w W W' : World} {b : Nat} {N : Int} {s : Ak.St} {rs : List Ak.Req} {hv : Value} {A : Option Addr} {c : Nat}
theorem Both.on_ (h : Both W0 W b N s rs hv) (k : Below W.heap.size W W') : Both W0 W' b N s rs hv := ⟨h.run.on_ k, h.row.on_ k, h.rf⟩
theorem Both.more_ {M : Int} (h : Both W0 W b N s rs hv) (hM : N ≤ M) : Both W0 W b M s rs hv := ⟨h.run.more_ hM, h.row, h.rf⟩
theorem Both.low (h : Both W0 W b N s rs hv) (hN : N ≤ 1000000) : rs.length ≤ 1000000 := by
  have := h.rf.len
  have := h.run.ok.a1
  omega
theorem Sm.on (h : Sm W0 w0 b N s rs A c W) (k : Below W.heap.size W W') : Sm W0 w0 b N s rs A c W' := ⟨h.both.on_ k, h.p.below k (Has.lt h.p), h.below.trans (k.mono h.below.size), h.big⟩
theorem Sm.drew (h : Sm W0 w0 b N s rs A c W) : Sm W0 w0 b N s rs A c W.drew := h.on (Below.refl _ _).drew
theorem Sm.all (h : Sm W0 w0 b N s rs A c W) : W.cell? ⟨w0.heap.size, 0, none⟩ = some (.int .i64 s.start) ∧ W.cell? ⟨w0.heap.size, 1, none⟩ = some (.int .i64 s.width) ∧ W.cell? ⟨w0.heap.size, 2, none⟩ = some (.int .i64 s.clock) ∧ W.cell? ⟨w0.heap.size, 3, none⟩ = some (.bool s.stopped) ∧ W.cell? ⟨w0.heap.size, 4, none⟩ = some (.slice A rs.length c) ∧ W.cell? ⟨w0.heap.size, 5, none⟩ = some (.int .i64 s.skipped) ∧ W.cell? ⟨w0.heap.size, 6, none⟩ = some (.int .i64 s.late) :=
  ⟨h.p.cell 0, h.p.cell 1, h.p.cell 2, h.p.cell 3, h.p.cell 4, h.p.cell 5, h.p.cell 6⟩
theorem clock_sm (h : Sm W0 w0 b N s rs A c W) :
    Calls Try.prog 16 #[.pointer (some ⟨b, 0, none⟩)] W fun e w' => e = .returned (.int .i64 s.clock) ∧ Sm W0 w0 b N s rs A c w' :=
  (clock_run h.both.run).mono fun _ _ ⟨he, _, k⟩ => ⟨he, h.on k⟩
theorem counts_sm (h : Sm W0 w0 b N s rs A c W) :
    Calls Try.prog 19 #[.pointer (some ⟨b, 0, none⟩)] W fun e w' => e = .returned (.agg #[.int .i64 (rs.length : Int), .int .i64 s.good, .int .i64 s.bad, .int .i64 s.failed, .int .i64 s.skipped, .int .i64 s.late]) ∧ Sm W0 w0 b N s rs A c w' :=
  (counts_ex h.both.run).mono fun _ _ ⟨he, _, k⟩ => ⟨by rw [he, h.both.rf.len], h.on k⟩
theorem ended_sm (how : Int) (h : Sm W0 w0 b N s rs A c W) :
    Calls Try.prog 34 #[.agg #[.int .i64 s.start, .int .i64 s.width, .int .i64 s.clock, .bool s.stopped, .slice A rs.length c, .int .i64 s.skipped, .int .i64 s.late], .int .i64 how] W fun e w' => e = .returned (.int .i64 (Ak.cnt how rs)) ∧ Sm W0 w0 b N s rs A c w' :=
  (rended_any how h.both.row (h.both.low h.big)).mono fun _ _ ⟨he, k⟩ => ⟨he, h.on k⟩

set_option maxRecDepth 100000 in
set_option maxHeartbeats 16000000 in
theorem same_none (ho : s.opn = 0) (hs : s.since = 0) (h : Both W0 w b N s rs (.slice A rs.length c)) (hN : N ≤ 1000000) :
    Calls Try.prog 23 #[.pointer (some ⟨b, 0, none⟩), .agg #[.int .i64 s.start, .int .i64 s.width, .int .i64 s.clock, .bool s.stopped, .slice A rs.length c, .int .i64 s.skipped, .int .i64 s.late]] w fun e w' => e = .returned (.bool true) ∧ Both W0 w' b N s rs (.slice A rs.length c) ∧ Below w.heap.size w w' := by
  have hbl : Below w.heap.size w (w.alloc (.cells #[.int .i64 s.start, .int .i64 s.width, .int .i64 s.clock, .bool s.stopped, .slice A rs.length c, .int .i64 s.skipped, .int .i64 s.late] 61)) := (Below.refl _ _).alloc (Nat.le_refl _) _
  have H0 : Hid (Sm W0 w b N s rs A c (w.alloc (.cells #[.int .i64 s.start, .int .i64 s.width, .int .i64 s.clock, .bool s.stopped, .slice A rs.length c, .int .i64 s.skipped, .int .i64 s.late] 61))) := Lib.hid ⟨h.on_ hbl, Has.made _ _ _, hbl, hN⟩
  have HF := Lib.hid h.rf
  have hl := h.low hN
  have t1 : Ak.cnt 1 rs = s.good := h.rf.g.symm
  have t2 : Ak.cnt 2 rs = s.bad := h.rf.b.symm
  have t3 : Ak.cnt 3 rs = s.failed := h.rf.f.symm
  obtain ⟨g, cap, he, hg0, hg1, hg2, hg3⟩ := h.row.shape
  injection he with he1 he2 he3
  subst he1
  subst he3
  clear hbl h hg0 hg1 he2
  go_enter Try.func23, Try.ntmps23
  go_wp2_with fail
  refine (open_run H0.out.both.run).mono ?_
  rintro e w1 ⟨rfl, -, hb1⟩
  rw [hs]
  have H1 := Lib.hid (H0.out.on hb1)
  obtain ⟨p0, p1, p2, p3, p4, p5, p6⟩ := H1.out.all
  clear hb1
  go_wp2_with fail
  refine (ropen_any H1.out.both.row HF.out hl).mono ?_
  rintro e w2 ⟨rfl, hb2⟩
  rw [ho]
  have H2 := Lib.hid (H1.out.on hb2)
  clear hb2 p0 p1 p2 p3 p4 p5 p6
  go_wp2_with fail
  refine (next_run H2.out.both.run).mono ?_
  rintro e w3 ⟨rfl, -, hb3⟩
  have H3 := Lib.hid (H2.out.on hb3)
  obtain ⟨p0, p1, p2, p3, p4, p5, p6⟩ := H3.out.all
  clear hb3
  go_wp2_with fail
  refine (rnext_any H3.out.both.run.ok).mono ?_
  rintro e w4 ⟨rfl, hb4⟩
  have h4 := H3.out.on hb4
  clear hb4 p0 p1 p2 p3 p4 p5 p6
  go_wp2_with fail
  go_region_held3 (fun W => W.cell? ⟨w.heap.size, 0, none⟩ = some (.int .i64 s.start) ∧ W.cell? ⟨w.heap.size, 1, none⟩ = some (.int .i64 s.width) ∧ W.cell? ⟨w.heap.size, 2, none⟩ = some (.int .i64 s.clock) ∧ W.cell? ⟨w.heap.size, 3, none⟩ = some (.bool s.stopped) ∧ W.cell? ⟨w.heap.size, 4, none⟩ = some (.slice (some ⟨g, 0, none⟩) rs.length c) ∧ W.cell? ⟨w.heap.size, 5, none⟩ = some (.int .i64 s.skipped) ∧ W.cell? ⟨w.heap.size, 6, none⟩ = some (.int .i64 s.late))
    (first | (go_keep; done) | exact Sm.all (Sm.drew (by assumption)) | exact Sm.all (by assumption))
    (first
      | (go_at_call 16; refine (clock_sm (by first | assumption | exact Sm.drew (by assumption))).mono ?_; rintro e w9 ⟨rfl, n9⟩)
      | (go_at_call 19; refine (counts_sm (by first | assumption | exact Sm.drew (by assumption))).mono ?_; rintro e w9 ⟨rfl, n9⟩)
      | (go_at_call 34; refine (ended_sm _ (by first | assumption | exact Sm.drew (by assumption))).mono ?_; rintro e w9 ⟨rfl, n9⟩))
  go_wp2
  go_ret
  exact ⟨rfl, Sm.both (by assumption), Sm.below (by assumption)⟩

set_option maxRecDepth 100000 in
set_option maxHeartbeats 16000000 in
theorem same_open (ho : s.opn ≠ 0) (h : Both W0 w b N s rs (.slice A rs.length c)) (hN : N ≤ 1000000) :
    Calls Try.prog 23 #[.pointer (some ⟨b, 0, none⟩), .agg #[.int .i64 s.start, .int .i64 s.width, .int .i64 s.clock, .bool s.stopped, .slice A rs.length c, .int .i64 s.skipped, .int .i64 s.late]] w fun e w' => e = .returned (.bool true) ∧ Both W0 w' b N s rs (.slice A rs.length c) ∧ Below w.heap.size w w' := by
  have hbl : Below w.heap.size w (w.alloc (.cells #[.int .i64 s.start, .int .i64 s.width, .int .i64 s.clock, .bool s.stopped, .slice A rs.length c, .int .i64 s.skipped, .int .i64 s.late] 61)) := (Below.refl _ _).alloc (Nat.le_refl _) _
  have H0 : Hid (Sm W0 w b N s rs A c (w.alloc (.cells #[.int .i64 s.start, .int .i64 s.width, .int .i64 s.clock, .bool s.stopped, .slice A rs.length c, .int .i64 s.skipped, .int .i64 s.late] 61))) := Lib.hid ⟨h.on_ hbl, Has.made _ _ _, hbl, hN⟩
  have HF := Lib.hid h.rf
  have hl := h.low hN
  have t1 : Ak.cnt 1 rs = s.good := h.rf.g.symm
  have t2 : Ak.cnt 2 rs = s.bad := h.rf.b.symm
  have t3 : Ak.cnt 3 rs = s.failed := h.rf.f.symm
  obtain ⟨g, cap, he, hg0, hg1, hg2, hg3⟩ := h.row.shape
  injection he with he1 he2 he3
  subst he1
  subst he3
  clear hbl h hg0 hg1 he2
  obtain ⟨k, l1, l2, l3, -⟩ := HF.out.last_ ho
  have hkl : k < rs.length := by omega
  have d1 : decide (0 < (k : Int) + 1) = true := decide_eq_true (by omega)
  have L2 := Lib.hid l2
  have L3 := Lib.hid l3
  clear ho l1 l2 l3
  go_enter Try.func23, Try.ntmps23
  go_wp2_with fail
  refine (open_run H0.out.both.run).mono ?_
  rintro e w1 ⟨rfl, -, hb1⟩
  rw [L2.out]
  have H1 := Lib.hid (H0.out.on hb1)
  obtain ⟨p0, p1, p2, p3, p4, p5, p6⟩ := H1.out.all
  clear hb1
  go_wp2_with fail
  refine (ropen_any H1.out.both.row HF.out hl).mono ?_
  rintro e w2 ⟨rfl, hb2⟩
  rw [L2.out]
  have H2 := Lib.hid (H1.out.on hb2)
  have ks : w2.cell? ⟨g, k * 2, none⟩ = some (.int .i64 s.since) := (H2.out.both.row.at_ k _ L3.out).1
  clear hb2 p0 p1 p2 p3 p4 p5 p6
  obtain ⟨p0, p1, p2, p3, p4, p5, p6⟩ := H2.out.all
  go_wp2_with fail
  refine (next_run H2.out.both.run).mono ?_
  rintro e w3 ⟨rfl, -, hb3⟩
  clear p0 p1 p2 p3 p4 p5 p6 ks d1
  have H3 := Lib.hid (H2.out.on hb3)
  obtain ⟨p0, p1, p2, p3, p4, p5, p6⟩ := H3.out.all
  clear hb3
  go_wp2_with fail
  refine (rnext_any H3.out.both.run.ok).mono ?_
  rintro e w4 ⟨rfl, hb4⟩
  have h4 := H3.out.on hb4
  clear hb4 p0 p1 p2 p3 p4 p5 p6
  go_wp2_with fail
  go_region_held3 (fun W => W.cell? ⟨w.heap.size, 0, none⟩ = some (.int .i64 s.start) ∧ W.cell? ⟨w.heap.size, 1, none⟩ = some (.int .i64 s.width) ∧ W.cell? ⟨w.heap.size, 2, none⟩ = some (.int .i64 s.clock) ∧ W.cell? ⟨w.heap.size, 3, none⟩ = some (.bool s.stopped) ∧ W.cell? ⟨w.heap.size, 4, none⟩ = some (.slice (some ⟨g, 0, none⟩) rs.length c) ∧ W.cell? ⟨w.heap.size, 5, none⟩ = some (.int .i64 s.skipped) ∧ W.cell? ⟨w.heap.size, 6, none⟩ = some (.int .i64 s.late))
    (first | (go_keep; done) | exact Sm.all (Sm.drew (by assumption)) | exact Sm.all (by assumption))
    (first
      | (go_at_call 16; refine (clock_sm (by first | assumption | exact Sm.drew (by assumption))).mono ?_; rintro e w9 ⟨rfl, n9⟩)
      | (go_at_call 19; refine (counts_sm (by first | assumption | exact Sm.drew (by assumption))).mono ?_; rintro e w9 ⟨rfl, n9⟩)
      | (go_at_call 34; refine (ended_sm _ (by first | assumption | exact Sm.drew (by assumption))).mono ?_; rintro e w9 ⟨rfl, n9⟩))
  go_wp2
  go_ret
  exact ⟨rfl, Sm.both (by assumption), Sm.below (by assumption)⟩

theorem same_any (h : Both W0 w b N s rs (.slice A rs.length c)) (hN : N ≤ 1000000) :
    Calls Try.prog 23 #[.pointer (some ⟨b, 0, none⟩), .agg #[.int .i64 s.start, .int .i64 s.width, .int .i64 s.clock, .bool s.stopped, .slice A rs.length c, .int .i64 s.skipped, .int .i64 s.late]] w fun e w' => e = .returned (.bool true) ∧ Both W0 w' b N s rs (.slice A rs.length c) ∧ Below w.heap.size w w' := by
  rcases h.rf.op with ⟨h1, h2, -⟩ | ⟨ys, h1, h2, -⟩
  · exact same_none h1 h2 h hN
  · exact same_open (by rw [h2, h1]; simp; omega) h hN
end
end Go.Proofs.Ytdbknbgomcabbaa
