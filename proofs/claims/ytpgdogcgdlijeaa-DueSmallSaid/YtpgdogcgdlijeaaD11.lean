/- Advance and Wake of what is not right. Conditions: Count refuses, or Fits. -/
import Derived.Test.YtpgdogcgdlijeaaD10
namespace Go.Proofs.Ytpgdogcgdlijeaa
open Go.RowKit

/-- The results' boxes of Advance behind Count. -/
theorem boxes_out {w w1 : World} {e o m a b st n : Int} (h1 : Below (boxes w e o m a b st n).heap.size (boxes w e o m a b st n) w1) :
    Has w1 (w.heap.size + 1 + 1 + 1 + 1) 25 (scells 0 0) ∧ Has w1 (w.heap.size + 1 + 1 + 1 + 1 + 1) 41 (rcells 0 0 0) ∧ w.heap.size + 1 + 1 + 1 + 1 + 1 < w1.heap.size ∧ Below w.heap.size w w1 := by
  have h2 := Fr.start (k := 0) h1 (Below.refl _ _)
  have h3 := (Fr.start (k := 0) h1 (Below.refl _ _)).lm
  have s7 := size_of w1 (.cells #[.int .i64 0] 3)
  have hx : w1.heap[w.heap.size + 1 + 1 + 1 + 1]? = ((w1.alloc (.cells #[.int .i64 0] 3)).alloc (.cells (rcells (-1) (-1) 0) 41)).heap[w.heap.size + 1 + 1 + 1 + 1]? :=
    ((Below.heap_alloc _ _ _ (by omega)).trans (Below.heap_alloc _ _ _ (by omega))).symm
  have hy : w1.heap[w.heap.size + 1 + 1 + 1 + 1 + 1]? = ((w1.alloc (.cells #[.int .i64 0] 3)).alloc (.cells (rcells (-1) (-1) 0) 41)).heap[w.heap.size + 1 + 1 + 1 + 1 + 1]? :=
    ((Below.heap_alloc _ _ _ (by omega)).trans (Below.heap_alloc _ _ _ (by omega))).symm
  have sb : w.heap.size ≤ (boxes w e o m a b st n).heap.size := by unfold boxes; simp; omega
  have base : Below w.heap.size w (boxes w e o m a b st n) := by
    unfold boxes
    repeat (first | exact Below.refl _ _ | refine Below.alloc ?_ (by first | exact Nat.le_refl _ | (simp; done) | (simp; omega)) _)
  exact ⟨hx.trans h2.x, hy.trans h2.y, h3, base.trans (h1.mono sb)⟩

set_option maxRecDepth 100000 in
set_option maxHeartbeats 8000000 in
theorem adv_bad1 (e o m a b st n : Int) (w : World) (hc : ∀ w, Calls Try.prog 20 #[.agg #[.int .i64 e, .int .i64 o, .int .i64 m], .int .i64 a, .int .i64 b] w fun x w' => x = .returned (.tuple #[.int .i64 0, .int .i64 2]) ∧ Below w.heap.size w w') :
    Calls Try.prog 19 #[.agg #[.int .i64 e, .int .i64 o, .int .i64 m], .agg #[.int .u8 st, .int .i64 n], .int .i64 a, .int .i64 b] w fun v w' =>
      v = .returned (.tuple #[.agg #[.int .u8 0, .int .i64 0], .agg #[.int .i64 0, .int .i64 0, .int .i64 0], .int .i64 2]) ∧ Below w.heap.size w w' := by
  have c1 := hc (boxes w e o m a b st n)
  unfold boxes pcells scells rcells at c1
  clear hc
  go_enter Try.func19, Try.ntmps19
  go_wp2_with fail
  refine wp_scope_ahead 0 rfl (fun _ _ _ h => h.elim) ?_
  go_wp2_with fail
  refine c1.mono ?_
  rintro x w1 ⟨rfl, hb1⟩
  obtain ⟨hx, hy, hl, hb⟩ := boxes_out hb1
  have HB := Lib.hid hb
  clear hb1 c1 hb
  have x0 : w1.cell? ⟨w.heap.size + 1 + 1 + 1 + 1, 0, none⟩ = some (.int .u8 0) := hx.cell 0
  have x1 : w1.cell? ⟨w.heap.size + 1 + 1 + 1 + 1, 1, none⟩ = some (.int .i64 0) := hx.cell 1
  have y0 : w1.cell? ⟨w.heap.size + 1 + 1 + 1 + 1 + 1, 0, none⟩ = some (.int .i64 0) := hy.cell 0
  have y1 : w1.cell? ⟨w.heap.size + 1 + 1 + 1 + 1 + 1, 1, none⟩ = some (.int .i64 0) := hy.cell 1
  have y2 : w1.cell? ⟨w.heap.size + 1 + 1 + 1 + 1 + 1, 2, none⟩ = some (.int .i64 0) := hy.cell 2
  have v0 := hx.free 0
  have v1 := hx.free 1
  have u0 := hy.free 0
  have u1 := hy.free 1
  have u2 := hy.free 2
  have l1 : w.heap.size + 1 + 1 + 1 + 1 < w1.heap.size := by omega
  clear hx hy
  go_wp2
  try simp only [Exit.jump]
  exact bodyPost_ret (v := .tuple #[.agg #[.int .u8 0, .int .i64 0], .agg #[.int .i64 0, .int .i64 0, .int .i64 0], .int .i64 2]) (by simp [results, Try.results19, go_sem, x0, x1, y0, y1, y2, hl, l1]) rfl
    ⟨rfl, (by repeat (first | exact HB.out | refine Below.drew ?_ | refine Below.alloc ?_ (by first | exact HB.out.size | (simp; omega)) _ | refine Below.setCell ?_ (by first | (simp; done) | (simp; omega)) _))⟩

set_option maxRecDepth 100000 in
set_option maxHeartbeats 8000000 in
theorem adv_bad2 (e o m a b st n k : Int) (w : World) (hc : ∀ w, Calls Try.prog 20 #[.agg #[.int .i64 e, .int .i64 o, .int .i64 m], .int .i64 a, .int .i64 b] w fun x w' => x = .returned (.tuple #[.int .i64 k, .int .i64 0]) ∧ Below w.heap.size w w')
    (hf : ∀ w, Calls Try.prog 18 #[.agg #[.int .i64 e, .int .i64 o, .int .i64 m], .agg #[.int .u8 st, .int .i64 n], .int .i64 a] w fun x w' => x = .returned (.bool false) ∧ Below w.heap.size w w') :
    Calls Try.prog 19 #[.agg #[.int .i64 e, .int .i64 o, .int .i64 m], .agg #[.int .u8 st, .int .i64 n], .int .i64 a, .int .i64 b] w fun v w' =>
      v = .returned (.tuple #[.agg #[.int .u8 0, .int .i64 0], .agg #[.int .i64 0, .int .i64 0, .int .i64 0], .int .i64 2]) ∧ Below w.heap.size w w' := by
  have c1 := hc (boxes w e o m a b st n)
  unfold boxes pcells scells rcells at c1
  have HF := Lib.hid hf
  clear hc hf
  go_enter Try.func19, Try.ntmps19
  go_wp2_with fail
  refine wp_scope_ahead 0 rfl (fun _ _ _ h => h.elim) ?_
  go_wp2_with fail
  refine c1.mono ?_
  rintro x w1 ⟨rfl, hb1⟩
  obtain ⟨hx, hy, hl, hb⟩ := boxes_out hb1
  obtain ⟨p0, p1, p2, p3, p4, p5, p6, p7, p8, p9⟩ := boxes_kept hb1
  clear p9
  have HB := Lib.hid hb
  have HX := Lib.hid hx
  have HY := Lib.hid hy
  clear hb1 c1 hb hx hy
  go_wp2_with fail
  refine (HF.out _).mono ?_
  rintro x w2 ⟨rfl, hb2⟩
  have s7 := size_of w1 (.cells #[.int .i64 k] 3)
  have hx := (HX.out.alloc (.cells #[.int .i64 k] 3)).below hb2 (by omega)
  have hy := (HY.out.alloc (.cells #[.int .i64 k] 3)).below hb2 (by omega)
  have HB2 := Lib.hid ((HB.out.alloc HB.out.size (.cells #[.int .i64 k] 3)).trans (hb2.mono (by have := HB.out.size; omega)))
  clear hb2 p0 p1 p2 p3 p4 p5 p6 p7 p8 s7
  have x0 : w2.cell? ⟨w.heap.size + 1 + 1 + 1 + 1, 0, none⟩ = some (.int .u8 0) := hx.cell 0
  have x1 : w2.cell? ⟨w.heap.size + 1 + 1 + 1 + 1, 1, none⟩ = some (.int .i64 0) := hx.cell 1
  have y0 : w2.cell? ⟨w.heap.size + 1 + 1 + 1 + 1 + 1, 0, none⟩ = some (.int .i64 0) := hy.cell 0
  have y1 : w2.cell? ⟨w.heap.size + 1 + 1 + 1 + 1 + 1, 1, none⟩ = some (.int .i64 0) := hy.cell 1
  have y2 : w2.cell? ⟨w.heap.size + 1 + 1 + 1 + 1 + 1, 2, none⟩ = some (.int .i64 0) := hy.cell 2
  have v0 := hx.free 0
  have v1 := hx.free 1
  have u0 := hy.free 0
  have u1 := hy.free 1
  have u2 := hy.free 2
  clear hx hy
  go_wp2
  try simp only [Exit.jump]
  exact bodyPost_ret (v := .tuple #[.agg #[.int .u8 0, .int .i64 0], .agg #[.int .i64 0, .int .i64 0, .int .i64 0], .int .i64 2]) (by simp [results, Try.results19, go_sem, x0, x1, y0, y1, y2]) rfl
    ⟨rfl, (by repeat (first | exact HB2.out | refine Below.drew ?_ | refine Below.setCell ?_ (by first | (simp; done) | (simp; omega)) _))⟩

set_option maxHeartbeats 4000000 in
theorem wake_bad (e o m st n t : Int) (w : World) (hf : ∀ w, Calls Try.prog 18 #[.agg #[.int .i64 e, .int .i64 o, .int .i64 m], .agg #[.int .u8 st, .int .i64 n], .int .i64 t] w fun x w' => x = .returned (.bool false) ∧ Below w.heap.size w w') :
    Calls Try.prog 24 #[.agg #[.int .i64 e, .int .i64 o, .int .i64 m], .agg #[.int .u8 st, .int .i64 n], .int .i64 t] w fun x w' => x = .returned (.tuple #[.int .i64 0, .int .i64 2]) ∧ Below w.heap.size w w' := by
  have HT := Lib.hid (Two.start w e o m st n)
  have c1 := hf ((w.alloc (.cells (pcells e o m) 23)).alloc (.cells (scells st n) 25))
  unfold pcells scells at c1
  clear hf
  go_enter Try.func24, Try.ntmps24
  go_wp2_with fail
  refine c1.mono ?_
  rintro x w1 ⟨rfl, hb1⟩
  have H1 := Lib.hid (HT.out.on hb1)
  clear hb1 c1
  go_wp2
  go_ret2
  exact ⟨rfl, H1.out.below⟩
end Go.Proofs.Ytpgdogcgdlijeaa
