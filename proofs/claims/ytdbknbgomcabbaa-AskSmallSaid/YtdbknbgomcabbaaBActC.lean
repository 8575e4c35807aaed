/- 'act', walked: Answer. Conditions: the Ask and the reference's state in memory, numbers in bounds. -/
import Derived.Test.YtdbknbgomcabbaaBAct0
namespace Go.Proofs.Ytdbknbgomcabbaa
open Go.RowKit

section
variable {W0 w : World} {b : Nat} {N : Int} {s : Ak.St} {rs : List Ak.Req} {A : Option Addr} {c : Nat} {kind n : Int} {good : Bool}

set_option maxRecDepth 100000 in
set_option maxHeartbeats 16000000 in
theorem act_open (s1 : Ak.St) (rs1 : List Ak.Req) (hk : kind % 6 = 2 ∨ kind % 6 = 3) (h1 : Ak.answer s s.opn good = s1) (h2 : Ak.ranswer s rs s.opn good = rs1) (h : Both W0 w b N s rs (.slice A rs.length c)) (hN : N ≤ 1000000) (k0 : 0 ≤ kind) (k1 : kind ≤ 255) :
    Calls Try.prog 24 #[.pointer (some ⟨b, 0, none⟩), .agg #[.int .i64 s.start, .int .i64 s.width, .int .i64 s.clock, .bool s.stopped, .slice A rs.length c, .int .i64 s.skipped, .int .i64 s.late], .agg #[.int .u8 kind, .int .i64 n, .bool good]] w
      fun e w' => ∃ A1 c1, e = .returned (.tuple #[.agg #[.int .i64 s1.start, .int .i64 s1.width, .int .i64 s1.clock, .bool s1.stopped, .slice A1 rs1.length c1, .int .i64 s1.skipped, .int .i64 s1.late], .bool true]) ∧ Both W0 w' b (N + 1) s1 rs1 (.slice A1 rs1.length c1) ∧ w.grownBy w' (some b) ∧ Later w (.slice A rs.length c) (.slice A1 rs1.length c1) := by
  have HRF : Hid (Ak.Rf s1 rs1) := Lib.hid (h1 ▸ h2 ▸ h.rf.answer_ s.opn good)
  have H1 := Lib.hid h1
  have H2 := Lib.hid h2
  obtain ⟨q, hq⟩ : ∃ q, Ak.takes s s.opn = q := ⟨_, rfl⟩
  have HFX := Lib.hid hq
  clear h1 h2 hq
  have hk2 := hk
  have hap := h.row.apart (show w.heap.size ≤ w.heap.size + 1 + 1 by omega)
  have hl := h.low hN
  have HF := Lib.hid h.rf
  have HOK := Lib.hid h.run.ok
  have hc0 := h.run.ok.c0
  have hc1 := h.run.ok.c1
  have hs0 := h.run.ok.s0
  have ho0 := h.run.ok.o0
  have hbz : b < w.heap.size := Has.lt h.run.at_
  have HB0 := Lib.hid (Bx.start (s := s) (hv := .slice A rs.length c) (kind := kind) (n := n) (good := good) w b)
  have HL0 : Hid (Below w.heap.size w (((w.alloc (.cells #[.int .i64 s.start, .int .i64 s.width, .int .i64 s.clock, .bool s.stopped, .slice A rs.length c, .int .i64 s.skipped, .int .i64 s.late] 61)).alloc (.cells #[.int .u8 kind, .int .i64 n, .bool good] 26)).alloc (.cells #[.int .i64 0, .int .i64 0, .int .i64 0, .bool false, .slice none 0 0, .int .i64 0, .int .i64 0] 61))) := Lib.hid ((((Below.refl _ _).alloc (Nat.le_refl _) _).alloc (by simp) _).alloc (by simp; omega) _)
  have HH0 := Lib.hid (h.on_ HL0.out)
  have HAP := Lib.hid hap
  obtain ⟨g, cap, he, hg0, hg1, hg2, hg3⟩ := h.row.shape
  injection he with he1 he2 he3
  subst he1
  subst he3
  have d0 : (kind % 6 == 0) = false := by simp; omega
  have d1 : (kind % 6 == 1) = false := by simp; omega
  clear h hap hg0 he2
  rcases (show (kind % 6 == 2) = true ∨ ((kind % 6 == 2) = false ∧ (kind % 6 == 3) = true) by simp; omega) with d2 | ⟨d2, d3⟩
  all_goals
    clear hk hk2
    go_enter Try.func24, Try.ntmps24
    go_wp2
    obtain ⟨x3, hx3⟩ : ∃ x3, x3 = (((w.alloc (.cells #[.int .i64 s.start, .int .i64 s.width, .int .i64 s.clock, .bool s.stopped, .slice (some ⟨g, 0, none⟩) rs.length c, .int .i64 s.skipped, .int .i64 s.late] 61)).alloc (.cells #[.int .u8 kind, .int .i64 n, .bool good] 26)).alloc (.cells #[.int .i64 0, .int .i64 0, .int .i64 0, .bool false, .slice none 0 0, .int .i64 0, .int .i64 0] 61)) := ⟨_, rfl⟩
    rw [← hx3] at HB0 HL0 HH0 ⊢
    clear hx3
    have cp : ∀ i : Nat, x3.cell? ⟨w.heap.size, i, none⟩ = #[.int .i64 s.start, .int .i64 s.width, .int .i64 s.clock, .bool s.stopped, .slice (some ⟨g, 0, none⟩) rs.length c, .int .i64 s.skipped, .int .i64 s.late][i]? := HB0.out.p.cell
    have cx : ∀ i : Nat, x3.cell? ⟨w.heap.size + 1, i, none⟩ = #[.int .u8 kind, .int .i64 n, .bool good][i]? := HB0.out.x.cell
    have z1 : w.heap.size < x3.heap.size := Has.lt HB0.out.p
    have z2 : w.heap.size + 1 < x3.heap.size := Has.lt HB0.out.x
    have z3 : w.heap.size + 1 + 1 < x3.heap.size := Has.lt HB0.out.r
    go_quiet (fail)
    go_wp2_with fail
    refine (ropen_any (HH0.out.row.on_ (below_drewN (Below.refl _ _) _)) HF.out hl).mono ?_
    rintro e xo ⟨rfl, hbo⟩
    have hkp : Below x3.heap.size x3 xo := (below_drewN (Below.refl _ _) _).trans (hbo.mono (Nat.le_refl _))
    have HBo := Lib.hid (HB0.out.on hkp)
    have HHo := Lib.hid (HH0.out.on_ hkp)
    have HLo := Lib.hid (HL0.out.trans (hkp.mono HL0.out.size))
    have zo : x3.heap.size ≤ xo.heap.size := hkp.size
    clear hbo hkp cp cx
    have cp : ∀ i : Nat, xo.cell? ⟨w.heap.size, i, none⟩ = #[.int .i64 s.start, .int .i64 s.width, .int .i64 s.clock, .bool s.stopped, .slice (some ⟨g, 0, none⟩) rs.length c, .int .i64 s.skipped, .int .i64 s.late][i]? := HBo.out.p.cell
    have cx : ∀ i : Nat, xo.cell? ⟨w.heap.size + 1, i, none⟩ = #[.int .u8 kind, .int .i64 n, .bool good][i]? := HBo.out.x.cell
    go_wp2_with fail
    refine (ranswer_any s.opn good q s1 rs1 H1.out H2.out HFX.out HHo.out.row HF.out hl (by omega) HOK.out (by omega)).mono ?_
    rintro e x4 ⟨A1, c1, rfl, hout⟩
    have hkeep : Below xo.heap.size xo x4 := hout.below
    have HBN := Lib.hid ((HBo.out.on hkeep).alloc (.cells #[.int .i64 s1.start, .int .i64 s1.width, .int .i64 s1.clock, .bool s1.stopped, .slice A1 rs1.length c1, .int .i64 s1.skipped, .int .i64 s1.late] 61))
    have HUN := Lib.hid ((HHo.out.run.on_ hkeep).alloc_ (.cells #[.int .i64 s1.start, .int .i64 s1.width, .int .i64 s1.clock, .bool s1.stopped, .slice A1 rs1.length c1, .int .i64 s1.skipped, .int .i64 s1.late] 61))
    have HON := Lib.hid (hout.row.on_ ((Below.refl _ _).alloc (Nat.le_refl _) (.cells #[.int .i64 s1.start, .int .i64 s1.width, .int .i64 s1.clock, .bool s1.stopped, .slice A1 rs1.length c1, .int .i64 s1.skipped, .int .i64 s1.late] 61)))
    have HXN := Lib.hid (Has.made x4 61 #[.int .i64 s1.start, .int .i64 s1.width, .int .i64 s1.clock, .bool s1.stopped, .slice A1 rs1.length c1, .int .i64 s1.skipped, .int .i64 s1.late])
    have HLT := Lib.hid hout.later
    have z4 : xo.heap.size ≤ x4.heap.size := hkeep.size
    clear hout hkeep cp cx
    go_wp2_with fail
    obtain ⟨W4, hW4⟩ : ∃ W4, W4 = x4.alloc (.cells #[.int .i64 s1.start, .int .i64 s1.width, .int .i64 s1.clock, .bool s1.stopped, .slice A1 rs1.length c1, .int .i64 s1.skipped, .int .i64 s1.late] 61) := ⟨_, rfl⟩
    rw [← hW4] at HBN HUN HON HXN ⊢
    clear hW4
    have e0 : W4.cell? ⟨x4.heap.size, 0, none⟩ = some (.int .i64 s1.start) := HXN.out.cell 0
    have e1 : W4.cell? ⟨x4.heap.size, 1, none⟩ = some (.int .i64 s1.width) := HXN.out.cell 1
    have e2 : W4.cell? ⟨x4.heap.size, 2, none⟩ = some (.int .i64 s1.clock) := HXN.out.cell 2
    have e3 : W4.cell? ⟨x4.heap.size, 3, none⟩ = some (.bool s1.stopped) := HXN.out.cell 3
    have e4 : W4.cell? ⟨x4.heap.size, 4, none⟩ = some (.slice A1 rs1.length c1) := HXN.out.cell 4
    have e5 : W4.cell? ⟨x4.heap.size, 5, none⟩ = some (.int .i64 s1.skipped) := HXN.out.cell 5
    have e6 : W4.cell? ⟨x4.heap.size, 6, none⟩ = some (.int .i64 s1.late) := HXN.out.cell 6
    have g2 : W4.cell? ⟨w.heap.size + 1, 2, none⟩ = some (.bool good) := HBN.out.x.cell 2
    have i1 : ¬ x4.heap.size = w.heap.size + 1 + 1 := by omega
    have i2 : ¬ w.heap.size + 1 + 1 = x4.heap.size := by omega
    have i5 : ¬ w.heap.size + 1 = w.heap.size + 1 + 1 := by omega
    have i6 : ¬ w.heap.size + 1 + 1 = w.heap.size + 1 := by omega
    go_region_held3 (fun W => W.cell? ⟨x4.heap.size, 0, none⟩ = some (.int .i64 s1.start) ∧ W.cell? ⟨x4.heap.size, 1, none⟩ = some (.int .i64 s1.width) ∧ W.cell? ⟨x4.heap.size, 2, none⟩ = some (.int .i64 s1.clock) ∧ W.cell? ⟨x4.heap.size, 3, none⟩ = some (.bool s1.stopped) ∧ W.cell? ⟨x4.heap.size, 4, none⟩ = some (.slice A1 rs1.length c1) ∧ W.cell? ⟨x4.heap.size, 5, none⟩ = some (.int .i64 s1.skipped) ∧ W.cell? ⟨x4.heap.size, 6, none⟩ = some (.int .i64 s1.late) ∧ W.cell? ⟨w.heap.size + 1, 2, none⟩ = some (.bool good))
        (go_keep)
        (first | (go_at_call 17; refine (answer_run s.opn good HUN.out.drew_ (by omega)).mono ?_; rw [H1.out, HFX.out]; rintro e x5 ⟨rfl, hu5, hg5⟩; have HB5 := Lib.hid (Bx.turn (HBN.out.on (Below.refl _ _).drew) hg5 hbz); have hx5 := HXN.out.drew.grown hg5 (by simp; omega); have HO5 := Lib.hid ((HON.out.on_ (Below.refl _ _).drew).grown_ hg5 (Nat.lt_succ_self _)); have HU5 := Lib.hid hu5; have cq := HB5.out.r.cell; have fq := HB5.out.r.free; have e0 : x5.cell? ⟨x4.heap.size, 0, none⟩ = some (.int .i64 s1.start) := hx5.cell 0; have e1 : x5.cell? ⟨x4.heap.size, 1, none⟩ = some (.int .i64 s1.width) := hx5.cell 1; have e2 : x5.cell? ⟨x4.heap.size, 2, none⟩ = some (.int .i64 s1.clock) := hx5.cell 2; have e3 : x5.cell? ⟨x4.heap.size, 3, none⟩ = some (.bool s1.stopped) := hx5.cell 3; have e4 : x5.cell? ⟨x4.heap.size, 4, none⟩ = some (.slice A1 rs1.length c1) := hx5.cell 4; have e5 : x5.cell? ⟨x4.heap.size, 5, none⟩ = some (.int .i64 s1.skipped) := hx5.cell 5; have e6 : x5.cell? ⟨x4.heap.size, 6, none⟩ = some (.int .i64 s1.late) := hx5.cell 6; have g2 : x5.cell? ⟨w.heap.size + 1, 2, none⟩ = some (.bool good) := HB5.out.x.cell 2; clear hx5 hu5 hg5))
    all_goals
      go_wp2
      exact bodyPost_ret (v := .tuple #[.agg #[.int .i64 s1.start, .int .i64 s1.width, .int .i64 s1.clock, .bool s1.stopped, .slice A1 rs1.length c1, .int .i64 s1.skipped, .int .i64 s1.late], .bool true]) (by simp [results, Try.results24, go_sem, cq]) rfl
        ⟨A1, c1, rfl, Both.set7_ ⟨HU5.out, HO5.out, HRF.out⟩ (HLT.out (w.heap.size + 1 + 1) (by first | omega | (simp; omega)) HAP.out) (by omega) _ _ _ _ _ _ _, Bx.end_ HB5.out.g _ _ _ _ _ _ _, fun x hx ha => HLT.out x (by first | omega | (simp; omega)) ha⟩
end
end Go.Proofs.Ytdbknbgomcabbaa
