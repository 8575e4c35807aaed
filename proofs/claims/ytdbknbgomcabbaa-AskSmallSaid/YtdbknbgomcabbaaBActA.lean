/- 'act', walked: Move. Conditions: the Ask and the reference's state in memory, numbers in bounds. -/
import Derived.Test.YtdbknbgomcabbaaBAct0
namespace Go.Proofs.Ytdbknbgomcabbaa
open Go.RowKit

section
variable {W0 w : World} {b : Nat} {N : Int} {s : Ak.St} {rs : List Ak.Req} {A : Option Addr} {c : Nat} {kind n : Int} {good : Bool}

set_option maxRecDepth 100000 in
set_option maxHeartbeats 16000000 in
theorem act_by (s1 : Ak.St) (rs1 : List Ak.Req) (q : Int) (hq : n.tmod 4096 = q) (hk : kind % 6 = 0) (h1 : Ak.move s (s.clock + q) = s1) (h2 : Ak.rmove s rs (s.clock + q) = rs1) (h : Both W0 w b N s rs (.slice A rs.length c)) (hN : N ≤ 1000000) (k0 : 0 ≤ kind) (k1 : kind ≤ 255) :
    Calls Try.prog 24 #[.pointer (some ⟨b, 0, none⟩), .agg #[.int .i64 s.start, .int .i64 s.width, .int .i64 s.clock, .bool s.stopped, .slice A rs.length c, .int .i64 s.skipped, .int .i64 s.late], .agg #[.int .u8 kind, .int .i64 n, .bool good]] w
      fun e w' => ∃ A1 c1, e = .returned (.tuple #[.agg #[.int .i64 s1.start, .int .i64 s1.width, .int .i64 s1.clock, .bool s1.stopped, .slice A1 rs1.length c1, .int .i64 s1.skipped, .int .i64 s1.late], .bool true]) ∧ Both W0 w' b (N + 1) s1 rs1 (.slice A1 rs1.length c1) ∧ w.grownBy w' (some b) ∧ Later w (.slice A rs.length c) (.slice A1 rs1.length c1) := by
  have HRF : Hid (Ak.Rf s1 rs1) := Lib.hid (h1 ▸ h2 ▸ h.rf.move_ (s.clock + q))
  have H1 := Lib.hid h1
  have H2 := Lib.hid h2
  have hq2 : -4096 < q ∧ q < 4096 := by
    have h1 := Int.tmod_lt_of_pos n (show (0 : Int) < 4096 by omega)
    have h2 := Int.lt_tmod_of_pos n (show (0 : Int) < 4096 by omega)
    omega
  obtain ⟨q1, q2⟩ := hq2
  have gq : IntKind.i64.wrap q = q := IntWalk.i64_in _ (by omega)
  have gc : IntKind.i64.wrap (s.clock + q) = s.clock + q := IntWalk.i64_in _ (by have := h.run.ok.c0; have := h.run.ok.c1; have := h.run.ok.s0; omega)
  clear h1 h2
  have hap := h.row.apart (show w.heap.size ≤ w.heap.size + 1 + 1 by omega)
  have hl := h.low hN
  have HF := Lib.hid h.rf
  have HOK := Lib.hid h.run.ok
  have hc0 := h.run.ok.c0
  have hc1 := h.run.ok.c1
  have hs0 := h.run.ok.s0
  have ho0 := h.run.ok.o0
  have hbz : b < w.heap.size := Has.lt h.run.at_
  have HB0 := Lib.hid (Bx.start (s := s) (hv := .slice A rs.length c) (kind := kind) (n := n) (good := good) w b)
  have HL0 : Hid (Below w.heap.size w (((w.alloc (.cells #[.int .i64 s.start, .int .i64 s.width, .int .i64 s.clock, .bool s.stopped, .slice A rs.length c, .int .i64 s.skipped, .int .i64 s.late] 61)).alloc (.cells #[.int .u8 kind, .int .i64 n, .bool good] 26)).alloc (.cells #[.int .i64 0, .int .i64 0, .int .i64 0, .bool false, .slice none 0 0, .int .i64 0, .int .i64 0] 61))) := Lib.hid ((((Below.refl _ _).alloc (Nat.le_refl _) _).alloc (by simp) _).alloc (by simp; omega) _)
  have HH0 := Lib.hid (h.on_ HL0.out)
  have HAP := Lib.hid hap
  obtain ⟨g, cap, he, hg0, hg1, hg2, hg3⟩ := h.row.shape
  injection he with he1 he2 he3
  subst he1
  subst he3
  have d0 : (kind % 6 == 0) = true := by simp; omega
  clear h hap hg0 he2 hk
  go_enter Try.func24, Try.ntmps24
  go_wp2
  obtain ⟨x3, hx3⟩ : ∃ x3, x3 = (((w.alloc (.cells #[.int .i64 s.start, .int .i64 s.width, .int .i64 s.clock, .bool s.stopped, .slice (some ⟨g, 0, none⟩) rs.length c, .int .i64 s.skipped, .int .i64 s.late] 61)).alloc (.cells #[.int .u8 kind, .int .i64 n, .bool good] 26)).alloc (.cells #[.int .i64 0, .int .i64 0, .int .i64 0, .bool false, .slice none 0 0, .int .i64 0, .int .i64 0] 61)) := ⟨_, rfl⟩
  rw [← hx3] at HB0 HL0 HH0 ⊢
  clear hx3
  have cp : ∀ i : Nat, x3.cell? ⟨w.heap.size, i, none⟩ = #[.int .i64 s.start, .int .i64 s.width, .int .i64 s.clock, .bool s.stopped, .slice (some ⟨g, 0, none⟩) rs.length c, .int .i64 s.skipped, .int .i64 s.late][i]? := HB0.out.p.cell
  have cx : ∀ i : Nat, x3.cell? ⟨w.heap.size + 1, i, none⟩ = #[.int .u8 kind, .int .i64 n, .bool good][i]? := HB0.out.x.cell
  have z1 : w.heap.size < x3.heap.size := Has.lt HB0.out.p
  have z2 : w.heap.size + 1 < x3.heap.size := Has.lt HB0.out.x
  have z3 : w.heap.size + 1 + 1 < x3.heap.size := Has.lt HB0.out.r
  go_quiet (fail)
  go_wp2_with fail
  refine (rmove_any (s.clock + q) _ _ s1 rs1 H1.out H2.out rfl rfl (HH0.out.row.on_ (below_drewN (Below.refl _ _) _)) HF.out hl (by simp; omega) HOK.out).mono ?_
  rintro e x4 ⟨A1, c1, rfl, hout⟩
  obtain ⟨f, hf⟩ : ∃ f, Ak.moveErr s (s.clock + q) = f := ⟨_, rfl⟩
  obtain ⟨x, hx⟩ : ∃ x, Ak.number s (s.clock + q) = x := ⟨_, rfl⟩
  rw [hf, hx]
  have HFX := Lib.hid hf
  have HXX := Lib.hid hx
  clear hf hx
  have hkeep : Below x3.heap.size x3 x4 := (below_drewN (Below.refl _ _) _).trans (hout.below.mono (Nat.le_refl _))
  have HB4 := Lib.hid ((HB0.out.on hkeep).alloc (.cells #[.int .i64 s1.start, .int .i64 s1.width, .int .i64 s1.clock, .bool s1.stopped, .slice A1 rs1.length c1, .int .i64 s1.skipped, .int .i64 s1.late] 61))
  have HU4 := Lib.hid ((HH0.out.run.on_ hkeep).alloc_ (.cells #[.int .i64 s1.start, .int .i64 s1.width, .int .i64 s1.clock, .bool s1.stopped, .slice A1 rs1.length c1, .int .i64 s1.skipped, .int .i64 s1.late] 61))
  have HO4 := Lib.hid (hout.row.on_ ((Below.refl _ _).alloc (Nat.le_refl _) (.cells #[.int .i64 s1.start, .int .i64 s1.width, .int .i64 s1.clock, .bool s1.stopped, .slice A1 rs1.length c1, .int .i64 s1.skipped, .int .i64 s1.late] 61)))
  have HX4 := Lib.hid (Has.made x4 61 #[.int .i64 s1.start, .int .i64 s1.width, .int .i64 s1.clock, .bool s1.stopped, .slice A1 rs1.length c1, .int .i64 s1.skipped, .int .i64 s1.late])
  have HLT := Lib.hid hout.later
  have z4 : x3.heap.size ≤ x4.heap.size := hkeep.size
  clear hout hkeep cp cx
  go_wp2_with fail
  refine (move_run (s.clock + q) HU4.out (by omega)).mono ?_
  rw [H1.out, HFX.out, HXX.out]
  rintro e x5 ⟨rfl, hu5, hg5⟩
  have HB5 := Lib.hid (HB4.out.turn hg5 hbz)
  have hx5 := HX4.out.grown hg5 (by simp; omega)
  have HO5 := Lib.hid (HO4.out.grown_ hg5 (Nat.lt_succ_self _))
  have HU5 := Lib.hid hu5
  have cx : ∀ i : Nat, x5.cell? ⟨x4.heap.size, i, none⟩ = #[.int .i64 s1.start, .int .i64 s1.width, .int .i64 s1.clock, .bool s1.stopped, .slice A1 rs1.length c1, .int .i64 s1.skipped, .int .i64 s1.late][i]? := hx5.cell
  have cq : ∀ i : Nat, x5.cell? ⟨w.heap.size + 1 + 1, i, none⟩ = #[.int .i64 0, .int .i64 0, .int .i64 0, .bool false, .slice none 0 0, .int .i64 0, .int .i64 0][i]? := HB5.out.r.cell
  have fq := HB5.out.r.free
  clear hx5 hu5 hg5
  go_wp2
  exact bodyPost_ret (v := .tuple #[.agg #[.int .i64 s1.start, .int .i64 s1.width, .int .i64 s1.clock, .bool s1.stopped, .slice A1 rs1.length c1, .int .i64 s1.skipped, .int .i64 s1.late], .bool true]) (by simp [results, Try.results24, go_sem, cq]) rfl
    ⟨A1, c1, rfl, Both.set7_ ⟨HU5.out, HO5.out, HRF.out⟩ (HLT.out (w.heap.size + 1 + 1) (by first | omega | (simp; omega)) HAP.out) (by omega) _ _ _ _ _ _ _, Bx.end_ HB5.out.g _ _ _ _ _ _ _, fun x hx ha => HLT.out x (by first | omega | (simp; omega)) ha⟩
end
end Go.Proofs.Ytdbknbgomcabbaa
