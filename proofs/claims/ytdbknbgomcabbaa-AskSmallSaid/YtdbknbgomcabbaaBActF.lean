/- 'act', walked: nothing. Conditions: the Ask and the reference's state in memory, numbers in bounds. -/
import Derived.Test.YtdbknbgomcabbaaBAct0
namespace Go.Proofs.Ytdbknbgomcabbaa
open Go.RowKit

section
variable {W0 w : World} {b : Nat} {N : Int} {s : Ak.St} {rs : List Ak.Req} {A : Option Addr} {c : Nat} {kind n : Int} {good : Bool}

set_option maxRecDepth 100000 in
set_option maxHeartbeats 16000000 in
theorem act_none (s1 : Ak.St) (rs1 : List Ak.Req) (hk : kind % 6 = 5) (hn : n % 2 = 0) (h1 : s = s1) (h2 : rs = rs1) (h : Both W0 w b N s rs (.slice A rs.length c)) (hN : N ≤ 1000000) (k0 : 0 ≤ kind) (k1 : kind ≤ 255) :
    Calls Try.prog 24 #[.pointer (some ⟨b, 0, none⟩), .agg #[.int .i64 s.start, .int .i64 s.width, .int .i64 s.clock, .bool s.stopped, .slice A rs.length c, .int .i64 s.skipped, .int .i64 s.late], .agg #[.int .u8 kind, .int .i64 n, .bool good]] w
      fun e w' => ∃ A1 c1, e = .returned (.tuple #[.agg #[.int .i64 s1.start, .int .i64 s1.width, .int .i64 s1.clock, .bool s1.stopped, .slice A1 rs1.length c1, .int .i64 s1.skipped, .int .i64 s1.late], .bool true]) ∧ Both W0 w' b (N + 1) s1 rs1 (.slice A1 rs1.length c1) ∧ w.grownBy w' (some b) ∧ Later w (.slice A rs.length c) (.slice A1 rs1.length c1) := by
  subst h1 h2
  have dn : (n.tmod 2 == 0) = true := by simpa using (tmod_two n).2 hn
  have gn : IntKind.i64.wrap (n.tmod 2) = n.tmod 2 := IntWalk.i64_in _ (by have := Int.tmod_lt_of_pos n (show (0 : Int) < 2 by omega); have := Int.lt_tmod_of_pos n (show (0 : Int) < 2 by omega); omega)
  clear hn
  have hap := h.row.apart (show w.heap.size ≤ w.heap.size + 1 + 1 by omega)
  have hl := h.low hN
  have HF := Lib.hid h.rf
  have HOK := Lib.hid h.run.ok
  have hc0 := h.run.ok.c0
  have hc1 := h.run.ok.c1
  have hs0 := h.run.ok.s0
  have ho0 := h.run.ok.o0
  have hbz : b < w.heap.size := Has.lt h.run.at_
  have HB0 := Lib.hid (Bx.start (s := s) (hv := .slice A rs.length c) (kind := kind) (n := n) (good := good) w b)
  have HL0 : Hid (Below w.heap.size w (((w.alloc (.cells #[.int .i64 s.start, .int .i64 s.width, .int .i64 s.clock, .bool s.stopped, .slice A rs.length c, .int .i64 s.skipped, .int .i64 s.late] 61)).alloc (.cells #[.int .u8 kind, .int .i64 n, .bool good] 26)).alloc (.cells #[.int .i64 0, .int .i64 0, .int .i64 0, .bool false, .slice none 0 0, .int .i64 0, .int .i64 0] 61))) := Lib.hid ((((Below.refl _ _).alloc (Nat.le_refl _) _).alloc (by simp) _).alloc (by simp; omega) _)
  have HH0 := Lib.hid (h.on_ HL0.out)
  have HAP := Lib.hid hap
  obtain ⟨g, cap, he, hg0, hg1, hg2, hg3⟩ := h.row.shape
  injection he with he1 he2 he3
  subst he1
  subst he3
  have d0 : (kind % 6 == 0) = false := by simp; omega
  have d1 : (kind % 6 == 1) = false := by simp; omega
  have d2 : (kind % 6 == 2) = false := by simp; omega
  have d3 : (kind % 6 == 3) = false := by simp; omega
  have d4 : (kind % 6 == 4) = false := by simp; omega
  clear h hap hg0 he2 hk
  go_enter Try.func24, Try.ntmps24
  go_wp2
  obtain ⟨x3, hx3⟩ : ∃ x3, x3 = (((w.alloc (.cells #[.int .i64 s.start, .int .i64 s.width, .int .i64 s.clock, .bool s.stopped, .slice (some ⟨g, 0, none⟩) rs.length c, .int .i64 s.skipped, .int .i64 s.late] 61)).alloc (.cells #[.int .u8 kind, .int .i64 n, .bool good] 26)).alloc (.cells #[.int .i64 0, .int .i64 0, .int .i64 0, .bool false, .slice none 0 0, .int .i64 0, .int .i64 0] 61)) := ⟨_, rfl⟩
  rw [← hx3] at HB0 HL0 HH0 ⊢
  clear hx3
  have cp : ∀ i : Nat, x3.cell? ⟨w.heap.size, i, none⟩ = #[.int .i64 s.start, .int .i64 s.width, .int .i64 s.clock, .bool s.stopped, .slice (some ⟨g, 0, none⟩) rs.length c, .int .i64 s.skipped, .int .i64 s.late][i]? := HB0.out.p.cell
  have cx : ∀ i : Nat, x3.cell? ⟨w.heap.size + 1, i, none⟩ = #[.int .u8 kind, .int .i64 n, .bool good][i]? := HB0.out.x.cell
  have z1 : w.heap.size < x3.heap.size := Has.lt HB0.out.p
  have z2 : w.heap.size + 1 < x3.heap.size := Has.lt HB0.out.x
  have z3 : w.heap.size + 1 + 1 < x3.heap.size := Has.lt HB0.out.r
  have cq : ∀ i : Nat, x3.cell? ⟨w.heap.size + 1 + 1, i, none⟩ = #[.int .i64 0, .int .i64 0, .int .i64 0, .bool false, .slice none 0 0, .int .i64 0, .int .i64 0][i]? := HB0.out.r.cell
  have fq := HB0.out.r.free
  go_quiet (fail)
  go_wp2
  exact bodyPost_ret (v := .tuple #[.agg #[.int .i64 s.start, .int .i64 s.width, .int .i64 s.clock, .bool s.stopped, .slice (some ⟨g, 0, none⟩) rs.length c, .int .i64 s.skipped, .int .i64 s.late], .bool true]) (by simp [results, Try.results24, go_sem, cq]) rfl
    ⟨some ⟨g, 0, none⟩, c, rfl, ((HH0.out.on_ (below_drewN (Below.refl _ _) _)).more_ (by omega)).set7_ HAP.out (by omega) _ _ _ _ _ _ _, Bx.end_ (HB0.out.on (below_drewN (Below.refl _ _) _)).g _ _ _ _ _ _ _, fun _ _ h => h⟩
end
end Go.Proofs.Ytdbknbgomcabbaa
