/- The functions of due, walked (4): the closures of Advance, and Advance. Conditions: a right plan, ticks in order, a phase that fits. -/
import Derived.Test.YtpgdogcgdlijeaaD3
namespace Go.Proofs.Ytpgdogcgdlijeaa
open Go.RowKit

def rcells (a b c : Int) : Array Value := #[.int .i64 a, .int .i64 b, .int .i64 c]

/-- The boxes of a call of Advance that began in world w: plan, phase, from, to, the results' boxes, how many due ticks (block mb), the report (block rb). -/
structure Fr (w : World) (e o m a b st n k r1 r2 r3 : Int) (mb rb : Nat) (W : World) : Prop where
  below : Below w.heap.size w W
  p : Has W w.heap.size 23 (pcells e o m)
  s : Has W (w.heap.size + 1) 25 (scells st n)
  f : Has W (w.heap.size + 1 + 1) 3 #[.int .i64 a]
  t : Has W (w.heap.size + 1 + 1 + 1) 3 #[.int .i64 b]
  x : Has W (w.heap.size + 1 + 1 + 1 + 1) 25 (scells 0 0)
  y : Has W (w.heap.size + 1 + 1 + 1 + 1 + 1) 41 (rcells 0 0 0)
  m : Has W mb 3 #[.int .i64 k]
  r : Has W rb 41 (rcells r1 r2 r3)
  lm : w.heap.size + 1 + 1 + 1 + 1 + 1 < mb
  lr : mb < rb
section
variable {w W W' : World} {e o m a b st n k r1 r2 r3 : Int} {mb rb : Nat}
theorem Fr.on (h : Fr w e o m a b st n k r1 r2 r3 mb rb W) (q : Below W.heap.size W W') : Fr w e o m a b st n k r1 r2 r3 mb rb W' :=
  ⟨h.below.trans (q.mono h.below.size), h.p.below q (Has.lt h.p), h.s.below q (Has.lt h.s), h.f.below q (Has.lt h.f), h.t.below q (Has.lt h.t), h.x.below q (Has.lt h.x), h.y.below q (Has.lt h.y), h.m.below q (Has.lt h.m), h.r.below q (Has.lt h.r), h.lm, h.lr⟩
theorem Fr.drew (h : Fr w e o m a b st n k r1 r2 r3 mb rb W) : Fr w e o m a b st n k r1 r2 r3 mb rb W.drew :=
  ⟨h.below.drew, h.p.drew, h.s.drew, h.f.drew, h.t.drew, h.x.drew, h.y.drew, h.m.drew, h.r.drew, h.lm, h.lr⟩
theorem Fr.phase (h : Fr w e o m a b st n k r1 r2 r3 mb rb W) (i : Nat) (u : Value) (st' n' : Int) (hc : (scells st n).setIfInBounds i u = scells st' n') : Fr w e o m a b st' n' k r1 r2 r3 mb rb (W.setCell ⟨w.heap.size + 1, i, none⟩ u) :=
  ⟨h.below.setCell (by simp) _, h.p.there (p := ⟨w.heap.size + 1, i, none⟩) (by first | (simp; done) | (simp; omega)) _, hc ▸ h.s.here i u, h.f.there (p := ⟨w.heap.size + 1, i, none⟩) (by first | (simp; done) | (simp; omega)) _, h.t.there (p := ⟨w.heap.size + 1, i, none⟩) (by first | (simp; done) | (simp; omega)) _,
   h.x.there (p := ⟨w.heap.size + 1, i, none⟩) (by first | (simp; done) | (simp; omega)) _, h.y.there (p := ⟨w.heap.size + 1, i, none⟩) (by first | (simp; done) | (simp; omega)) _, h.m.there (p := ⟨w.heap.size + 1, i, none⟩) (by have := h.lm; simp; omega) _,
   h.r.there (p := ⟨w.heap.size + 1, i, none⟩) (by have := h.lm; have := h.lr; simp; omega) _, h.lm, h.lr⟩
theorem Fr.report (h : Fr w e o m a b st n k r1 r2 r3 mb rb W) (i : Nat) (u : Value) (q1 q2 q3 : Int) (hc : (rcells r1 r2 r3).setIfInBounds i u = rcells q1 q2 q3) : Fr w e o m a b st n k q1 q2 q3 mb rb (W.setCell ⟨rb, i, none⟩ u) := by
  have h1 := h.lm
  have h2 := h.lr
  exact ⟨h.below.setCell (by simp; omega) _, h.p.there (p := ⟨rb, i, none⟩) (by simp; omega) _, h.s.there (p := ⟨rb, i, none⟩) (by simp; omega) _, h.f.there (p := ⟨rb, i, none⟩) (by simp; omega) _, h.t.there (p := ⟨rb, i, none⟩) (by simp; omega) _,
   h.x.there (p := ⟨rb, i, none⟩) (by simp; omega) _, h.y.there (p := ⟨rb, i, none⟩) (by simp; omega) _, h.m.there (p := ⟨rb, i, none⟩) (by simp; omega) _, hc ▸ h.r.here i u, h.lm, h.lr⟩

set_option maxHeartbeats 4000000 in
theorem begin_fr (nx : Int) (hk : Du.Ok e o m) (a0 : 0 ≤ a) (a1 : a ≤ 281474976710656) (hn : Du.next e o a = nx) (hn2 : nx ≤ 281474976710656) (k0 : 0 ≤ k) (k1 : k ≤ 281474976710657) (h : Fr w e o m a b st n k r1 r2 r3 mb rb W) :
    Calls Try.prog 35 #[.pointer (some ⟨w.heap.size, 0, none⟩), .pointer (some ⟨w.heap.size + 1 + 1, 0, none⟩), .pointer (some ⟨w.heap.size + 1, 0, none⟩), .pointer (some ⟨mb, 0, none⟩), .pointer (some ⟨rb, 0, none⟩)] W
      fun v w' => v = .returned (.tuple #[]) ∧ Fr w e o m a b 1 nx k nx r2 (k - 1) mb rb w' := by
  have c0 := h.p.cell 0
  have c1 := h.p.cell 1
  have c2 := h.p.cell 2
  have c3 := h.f.cell 0
  have H := Lib.hid h
  have g1 : IntKind.i64.wrap (k - 1) = k - 1 := IntWalk.i64_in _ (by omega)
  simp [pcells] at c0 c1 c2 c3
  clear h
  go_enter Try.func35, Try.ntmps35
  go_wp2_with fail
  refine (next_ok e o m a _ hk a0 a1).mono ?_
  rintro v w1 ⟨n1, f1, rfl, hor, hb⟩
  rw [hn] at hor
  obtain ⟨-, rfl, rfl⟩ : nx ≤ 281474976710656 ∧ n1 = nx ∧ f1 = 0 := by
    rcases hor with h | h
    · exact h
    · omega
  have H1 := Lib.hid (H.out.on hb)
  have d0 := H1.out.m.cell 0
  have d1 := H1.out.s.free 0
  have d2 := H1.out.s.free 1
  have d3 := H1.out.r.free 0
  have d4 := H1.out.r.free 2
  have d5 : mb < w1.heap.size := Has.lt H1.out.m
  have d6 := H1.out.lm
  have d7 := H1.out.lr
  have d8 : ¬ mb = w.heap.size + 1 := by omega
  have d9 : ¬ w.heap.size + 1 = mb := by omega
  have da : ¬ mb = rb := by omega
  have db : ¬ rb = mb := by omega
  have de : w.heap.size + 1 < w1.heap.size := Has.lt H1.out.s
  have df : rb < w1.heap.size := Has.lt H1.out.r
  have p0 : w1.cell? ⟨w.heap.size + 1, 0, none⟩ = some (.int .u8 st) := H1.out.s.cell 0
  have p1 : w1.cell? ⟨w.heap.size + 1, 1, none⟩ = some (.int .i64 n) := H1.out.s.cell 1
  have q0 : w1.cell? ⟨rb, 0, none⟩ = some (.int .i64 r1) := H1.out.r.cell 0
  have q2 : w1.cell? ⟨rb, 2, none⟩ = some (.int .i64 r3) := H1.out.r.cell 2
  have dg : ¬ rb = w.heap.size + 1 := by omega
  have dh : ¬ w.heap.size + 1 = rb := by omega
  simp at d0
  clear hb hor c0 c1 c2 c3
  go_wp2
  go_region
  go_end0
  exact ⟨rfl, ((((H1.out.phase 0 _ 1 n rfl).phase 1 _ 1 n1 rfl).report 0 _ n1 r2 r3 rfl).report 2 _ n1 r2 (k - 1) rfl).drew⟩

set_option maxHeartbeats 4000000 in
theorem fail_fr (hk : Du.Ok e o m) (n0 : 0 ≤ n) (n1 : n ≤ 281474976710656) (st' q : Int) (hq : (n + m ≤ b ∧ st' = 2 ∧ q = n) ∨ (b < n + m ∧ st' = st ∧ q = r2)) (h : Fr w e o m a b st n k r1 r2 r3 mb rb W) :
    Calls Try.prog 36 #[.pointer (some ⟨w.heap.size + 1, 0, none⟩), .pointer (some ⟨w.heap.size, 0, none⟩), .pointer (some ⟨w.heap.size + 1 + 1 + 1, 0, none⟩), .pointer (some ⟨rb, 0, none⟩)] W
      fun v w' => v = .returned (.tuple #[]) ∧ Fr w e o m a b st' n k r1 q r3 mb rb w' := by
  have m2 := hk.m2
  have m1 := hk.m1
  have e2 := hk.e2
  have g1 : IntKind.i64.wrap (n + m) = n + m := IntWalk.i64_in _ (by omega)
  have c2 : W.cell? ⟨w.heap.size, 2, none⟩ = some (.int .i64 m) := h.p.cell 2
  have c3 : W.cell? ⟨w.heap.size + 1 + 1 + 1, 0, none⟩ = some (.int .i64 b) := h.t.cell 0
  have p0 : W.cell? ⟨w.heap.size + 1, 0, none⟩ = some (.int .u8 st) := h.s.cell 0
  have p1 : W.cell? ⟨w.heap.size + 1, 1, none⟩ = some (.int .i64 n) := h.s.cell 1
  have q1 : W.cell? ⟨rb, 1, none⟩ = some (.int .i64 r2) := h.r.cell 1
  have d1 := h.s.free 0
  have d2 := h.r.free 1
  have d6 := h.lm
  have d7 := h.lr
  have dg : ¬ rb = w.heap.size + 1 := by omega
  have dh : ¬ w.heap.size + 1 = rb := by omega
  have H := Lib.hid h
  clear h
  rcases hq with ⟨h1, rfl, rfl⟩ | ⟨h1, rfl, rfl⟩
  · have dd : decide (q + m ≤ b) = true := decide_eq_true h1
    go_enter Try.func36, Try.ntmps36
    go_wp2
    go_end0
    exact ⟨rfl, (H.out.phase 0 _ 2 q rfl).report 1 _ r1 q r3 rfl⟩
  · have dd : decide (n + m ≤ b) = false := decide_eq_false (by omega)
    go_enter Try.func36, Try.ntmps36
    go_wp2
    go_end0
    exact ⟨rfl, H.out⟩
end
end Go.Proofs.Ytpgdogcgdlijeaa
