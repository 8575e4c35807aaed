/- The functions of due, walked (5): Advance. Conditions: a right plan, ticks in order, a phase that fits. -/
import Derived.Test.YtpgdogcgdlijeaaD4
import Derived.WalkMore
import Derived.ScopeJumps
namespace Go.Proofs.Ytpgdogcgdlijeaa
open Go.RowKit

/-- The boxes at the beginning of Advance. -/
def boxes (w : World) (e o m a b st n : Int) : World :=
  (((((w.alloc (.cells (pcells e o m) 23)).alloc (.cells (scells st n) 25)).alloc (.cells #[.int .i64 a] 3)).alloc (.cells #[.int .i64 b] 3)).alloc (.cells (scells 0 0) 25)).alloc (.cells (rcells 0 0 0) 41)

theorem made_at {w : World} {g : Nat} (t : TypeId) (cs : Array Value) (h : w.heap.size = g) : Has (w.alloc (.cells cs t)) g t cs := h ▸ Has.made w t cs

theorem Fr.start {w w1 w2 : World} {e o m a b st n k : Int} (h1 : Below (boxes w e o m a b st n).heap.size (boxes w e o m a b st n) w1) (h2 : Below (w1.alloc (.cells #[.int .i64 k] 3)).heap.size (w1.alloc (.cells #[.int .i64 k] 3)) w2) :
    Fr w e o m a b st n k (-1) (-1) k w1.heap.size w2.heap.size (w2.alloc (.cells (rcells (-1) (-1) k) 41)) := by
  have s1 := size_of w (.cells (pcells e o m) 23)
  have s2 := size_of (w.alloc (.cells (pcells e o m) 23)) (.cells (scells st n) 25)
  have s3 := size_of ((w.alloc (.cells (pcells e o m) 23)).alloc (.cells (scells st n) 25)) (.cells #[.int .i64 a] 3)
  have s4 := size_of (((w.alloc (.cells (pcells e o m) 23)).alloc (.cells (scells st n) 25)).alloc (.cells #[.int .i64 a] 3)) (.cells #[.int .i64 b] 3)
  have s5 := size_of ((((w.alloc (.cells (pcells e o m) 23)).alloc (.cells (scells st n) 25)).alloc (.cells #[.int .i64 a] 3)).alloc (.cells #[.int .i64 b] 3)) (.cells (scells 0 0) 25)
  have s6 := size_of (((((w.alloc (.cells (pcells e o m) 23)).alloc (.cells (scells st n) 25)).alloc (.cells #[.int .i64 a] 3)).alloc (.cells #[.int .i64 b] 3)).alloc (.cells (scells 0 0) 25)) (.cells (rcells 0 0 0) 41)
  have s7 := size_of w1 (.cells #[.int .i64 k] 3)
  have z1 := h1.size
  have z2 := h2.size
  have sb : (boxes w e o m a b st n).heap.size = w.heap.size + 6 := by unfold boxes; omega
  have up : ∀ {g : Nat} {t : TypeId} {cs : Array Value}, Has (boxes w e o m a b st n) g t cs → Has (w2.alloc (.cells (rcells (-1) (-1) k) 41)) g t cs := fun {g t cs} h => by
    have q1 := h.below h1 (Has.lt h)
    have q2 := q1.alloc (.cells #[.int .i64 k] 3)
    exact (q2.below h2 (Has.lt q2)).alloc _
  have base : Below w.heap.size w (boxes w e o m a b st n) := by
    unfold boxes
    exact ((((((Below.refl _ _).alloc (Nat.le_refl _) _).alloc (by omega) _).alloc (by omega) _).alloc (by omega) _).alloc (by omega) _).alloc (by omega) _
  refine ⟨?_, up ?_, up ?_, up ?_, up ?_, up ?_, up ?_, ?_, Has.made _ _ _, by omega, by omega⟩
  · exact ((((base.trans (h1.mono base.size)).alloc (by omega) _).trans (h2.mono (by omega)))).alloc (by omega) _
  · unfold boxes; exact (((((Has.made _ _ _).alloc _).alloc _).alloc _).alloc _).alloc _
  · unfold boxes; exact ((((made_at _ _ (by omega)).alloc _).alloc _).alloc _).alloc _
  · unfold boxes; exact (((made_at _ _ (by omega)).alloc _).alloc _).alloc _
  · unfold boxes; exact ((made_at _ _ (by omega)).alloc _).alloc _
  · unfold boxes; exact (made_at _ _ (by omega)).alloc _
  · unfold boxes; exact made_at _ _ (by omega)
  · have q1 := Has.made w1 3 #[.int .i64 k]
    exact (q1.below h2 (Has.lt q1)).alloc _

/-- What the walk reads behind Count. -/
theorem boxes_kept {w w1 : World} {e o m a b st n : Int} (h1 : Below (boxes w e o m a b st n).heap.size (boxes w e o m a b st n) w1) :
    w1.cell? ⟨w.heap.size, 0, none⟩ = some (.int .i64 e) ∧ w1.cell? ⟨w.heap.size, 1, none⟩ = some (.int .i64 o) ∧ w1.cell? ⟨w.heap.size, 2, none⟩ = some (.int .i64 m) ∧
    w1.cell? ⟨w.heap.size + 1, 0, none⟩ = some (.int .u8 st) ∧ w1.cell? ⟨w.heap.size + 1, 1, none⟩ = some (.int .i64 n) ∧ w1.cell? ⟨w.heap.size + 1 + 1, 0, none⟩ = some (.int .i64 a) ∧ w.heap.size < w1.heap.size ∧ w.heap.size + 1 < w1.heap.size ∧ w.heap.size + 1 + 1 < w1.heap.size ∧ Has w1 (w.heap.size + 1) 25 (scells st n) := by
  have h2 := Fr.start (k := 0) h1 (Below.refl _ _)
  have h3 := (Fr.start (k := 0) h1 (Below.refl _ _)).lm
  have s7 := size_of w1 (.cells #[.int .i64 0] 3)
  have hp : w1.heap[w.heap.size]? = ((w1.alloc (.cells #[.int .i64 0] 3)).alloc (.cells (rcells (-1) (-1) 0) 41)).heap[w.heap.size]? :=
    ((Below.heap_alloc _ _ _ (by omega)).trans (Below.heap_alloc _ _ _ (by omega))).symm
  have hs : w1.heap[w.heap.size + 1]? = ((w1.alloc (.cells #[.int .i64 0] 3)).alloc (.cells (rcells (-1) (-1) 0) 41)).heap[w.heap.size + 1]? :=
    ((Below.heap_alloc _ _ _ (by omega)).trans (Below.heap_alloc _ _ _ (by omega))).symm
  have hf : w1.heap[w.heap.size + 1 + 1]? = ((w1.alloc (.cells #[.int .i64 0] 3)).alloc (.cells (rcells (-1) (-1) 0) 41)).heap[w.heap.size + 1 + 1]? :=
    ((Below.heap_alloc _ _ _ (by omega)).trans (Below.heap_alloc _ _ _ (by omega))).symm
  have ap : Has w1 w.heap.size 23 (pcells e o m) := hp.trans h2.p
  have as_ : Has w1 (w.heap.size + 1) 25 (scells st n) := hs.trans h2.s
  have af : Has w1 (w.heap.size + 1 + 1) 3 #[.int .i64 a] := hf.trans h2.f
  exact ⟨ap.cell 0, ap.cell 1, ap.cell 2, as_.cell 0, as_.cell 1, af.cell 0, by omega, by omega, by omega, as_⟩

/-- What the end of Advance reads and writes. -/
theorem Fr.ends {w W : World} {e o m a b st n k r1 r2 r3 : Int} {mb rb : Nat} (h : Fr w e o m a b st n k r1 r2 r3 mb rb W) :
    (W.cell? ⟨w.heap.size + 1, 0, none⟩ = some (.int .u8 st) ∧ W.cell? ⟨w.heap.size + 1, 1, none⟩ = some (.int .i64 n)) ∧
    (W.cell? ⟨rb, 0, none⟩ = some (.int .i64 r1) ∧ W.cell? ⟨rb, 1, none⟩ = some (.int .i64 r2) ∧ W.cell? ⟨rb, 2, none⟩ = some (.int .i64 r3)) ∧
    (W.cell? ⟨w.heap.size + 1 + 1 + 1 + 1, 0, none⟩ = some (.int .u8 0) ∧ W.cell? ⟨w.heap.size + 1 + 1 + 1 + 1, 1, none⟩ = some (.int .i64 0)) ∧
    (W.cell? ⟨w.heap.size + 1 + 1 + 1 + 1 + 1, 0, none⟩ = some (.int .i64 0) ∧ W.cell? ⟨w.heap.size + 1 + 1 + 1 + 1 + 1, 1, none⟩ = some (.int .i64 0) ∧ W.cell? ⟨w.heap.size + 1 + 1 + 1 + 1 + 1, 2, none⟩ = some (.int .i64 0)) ∧
    (W.frozen? ⟨w.heap.size + 1 + 1 + 1 + 1, 0, none⟩ = false ∧ W.frozen? ⟨w.heap.size + 1 + 1 + 1 + 1, 1, none⟩ = false) ∧
    (W.frozen? ⟨w.heap.size + 1 + 1 + 1 + 1 + 1, 0, none⟩ = false ∧ W.frozen? ⟨w.heap.size + 1 + 1 + 1 + 1 + 1, 1, none⟩ = false ∧ W.frozen? ⟨w.heap.size + 1 + 1 + 1 + 1 + 1, 2, none⟩ = false) ∧
    (¬ w.heap.size + 1 + 1 + 1 + 1 = rb ∧ ¬ rb = w.heap.size + 1 + 1 + 1 + 1 ∧ ¬ w.heap.size + 1 + 1 + 1 + 1 + 1 = rb ∧ ¬ rb = w.heap.size + 1 + 1 + 1 + 1 + 1 ∧ ¬ w.heap.size + 1 + 1 + 1 + 1 = w.heap.size + 1 ∧ ¬ w.heap.size + 1 = w.heap.size + 1 + 1 + 1 + 1) :=
  ⟨⟨h.s.cell 0, h.s.cell 1⟩, ⟨h.r.cell 0, h.r.cell 1, h.r.cell 2⟩, ⟨h.x.cell 0, h.x.cell 1⟩, ⟨h.y.cell 0, h.y.cell 1, h.y.cell 2⟩, ⟨h.x.free 0, h.x.free 1⟩, ⟨h.y.free 0, h.y.free 1, h.y.free 2⟩,
   by have h1 := h.lm; have h2 := h.lr; omega⟩

/-- A scope with a jump ahead: what stands behind the label is walked where the jump is met. -/
theorem wp_scope_ahead {P : Program} {a : Act} {w : World} {Q : Exit → Act → World → Prop} {c rest : Code} (l : Nat) (hf : findLabel c l = some rest) (hQ : ∀ l' a w, ¬ Q (.goto l') a w)
    (first : c.wp P (Exit.jump l (fun a w => rest.wp P Q a w) Q) a w) : (Code.scope c).wp P Q a w :=
  wp_scope_jumps l _ (fun _ _ => 0) hf first (fun _ _ h => Code.wp_mono (fun e _ _ hq => by cases e <;> first | exact hq | exact (hQ _ _ _ hq).elim) h)

set_option maxRecDepth 100000 in
set_option maxHeartbeats 8000000 in
theorem adv_ok (e o m a b st n : Int) (w : World) (hk : Du.Ok e o m) (a0 : 0 ≤ a) (hab : a ≤ b) (b1 : b ≤ 281474976710656) (hf : Du.fitsP e o m st n a) :
    Calls Try.prog 19 #[.agg #[.int .i64 e, .int .i64 o, .int .i64 m], .agg #[.int .u8 st, .int .i64 n], .int .i64 a, .int .i64 b] w fun v w' => ∃ st' n' r1 r2 r3 : Int,
      v = .returned (.tuple #[.agg #[.int .u8 st', .int .i64 n'], .agg #[.int .i64 r1, .int .i64 r2, .int .i64 r3], .int .i64 0]) ∧ Du.Adv e o m st n a b st' n' r1 r2 r3 ∧ Below w.heap.size w w' := by
  have u2 := Du.up_le (o := o) hk.e1 hab
  have u1 := Du.up_bounds hk.e1 hk.o0 b1 (Du.upTo_spec (o := o) (t := b) hk.e1)
  have u0 := (Du.upTo_spec (o := o) (t := a) hk.e1).u0
  have c1 := count_ok e o m a b (boxes w e o m a b st n) hk a0 hab b1
  unfold boxes pcells scells rcells at c1
  obtain ⟨k, hkk⟩ : ∃ k, Du.upTo e o b - Du.upTo e o a = k := ⟨_, rfl⟩
  rw [hkk] at c1
  have HF := Lib.hid hf
  have HK := Lib.hid hkk
  clear hkk hf
  go_enter Try.func19, Try.ntmps19
  go_wp2_with fail
  refine wp_scope_ahead 0 rfl (fun _ _ _ h => h.elim) ?_
  go_wp2_with fail
  refine c1.mono ?_
  rintro x w1 ⟨rfl, hb1⟩
  have HB1 := Lib.hid hb1
  obtain ⟨p0, p1, p2, p3, p4, p5, p6, p7, p8, p9⟩ := boxes_kept hb1
  have HS1 := Lib.hid p9
  clear p9
  clear hb1 c1
  go_wp2_with fail
  refine (fits_ok e o m st n a _ hk a0 (by omega) HF.out).mono ?_
  rintro x w2 ⟨rfl, hb2⟩
  have HFR := Lib.hid (Fr.start HB1.out hb2)
  have hkc : w2.cell? ⟨w1.heap.size, 0, none⟩ = some (.int .i64 k) := (hb2.cell (p := ⟨w1.heap.size, 0, none⟩) (by rw [size_of]; exact Nat.lt_succ_self _)).trans ((Has.made w1 3 #[.int .i64 k]).cell 0)
  have hs2 := (HS1.out.alloc (.cells #[.int .i64 k] 3)).below hb2 (by rw [size_of]; omega)
  have ps2 : w2.cell? ⟨w.heap.size + 1, 0, none⟩ = some (.int .u8 st) := hs2.cell 0
  have ps3 : w2.cell? ⟨w.heap.size + 1, 1, none⟩ = some (.int .i64 n) := hs2.cell 1
  clear hb2 p0 p1 p2 p3 p4 p5 hs2
  have hl : w1.heap.size < w2.heap.size := HFR.out.lr
  have hl2 : w.heap.size + 1 < w2.heap.size := by omega
  rcases HF.out with ⟨rfl, rfl⟩ | ⟨f1, f2, f3, ⟨rfl, f4⟩ | rfl⟩
  · rcases (show k = 0 ∨ k ≠ 0 by omega) with hk0 | hk0
    · have dk : (k == 0) = true := by simp; exact hk0
      have HK0 := Lib.hid hk0
      clear hk0
      go_wp2_with fail
      unfold rcells at HFR
      generalize w2.alloc (Obj.cells #[Value.int IntKind.i64 (-1), Value.int IntKind.i64 (-1), Value.int IntKind.i64 k] 41) = W3 at *
      go_step3
      refine ⟨rfl, ?_⟩
      obtain ⟨⟨z1, z2⟩, ⟨z3, z4, z5⟩, ⟨y1, y2⟩, ⟨y3, y4, y5⟩, ⟨v1, v2⟩, ⟨v3, v4, v5⟩, x1, x2, x3, x4, x5, x6⟩ := Fr.ends HFR.out
      go_wp2
      go_region
      go_wp2
      try simp only [Exit.jump]
      exact bodyPost_ret (v := .tuple #[.agg #[.int .u8 0, .int .i64 0], .agg #[.int .i64 (-1), .int .i64 (-1), .int .i64 k], .int .i64 0]) (by simp [results, Try.results19, go_sem, y1, y2, y3, y4, y5]) rfl ⟨_, _, _, _, _, rfl, ⟨Or.inr (Or.inl ⟨rfl, HK.out.trans HK0.out, rfl, rfl, rfl, rfl, HK0.out⟩)⟩, (by repeat (first | exact Fr.below HFR.out | refine Below.drew ?_ | refine Below.setCell ?_ (by first | (simp; done) | (simp; omega)) _))⟩
    · have dk : (k == 0) = false := by simp; exact hk0
      have HK0 := Lib.hid hk0
      have hnl := Du.next_le hk.e1 hab (o := o) (by rw [HK.out]; exact hk0)
      have hng := Du.next_ge (t := a) hk.e1 hk.o0
      have hb0 : 0 ≤ k ∧ k ≤ 281474976710657 := by rw [← HK.out]; omega
      clear hk0
      obtain ⟨nx, hnx⟩ : ∃ nx, Du.next e o a = nx := ⟨_, rfl⟩
      rw [hnx] at hnl hng
      have HNX := Lib.hid hnx
      clear hnx
      go_wp2_with fail
      unfold rcells at HFR
      generalize w2.alloc (Obj.cells #[Value.int IntKind.i64 (-1), Value.int IntKind.i64 (-1), Value.int IntKind.i64 k] 41) = W3 at *
      refine (begin_fr nx hk a0 (by omega) HNX.out (by omega) hb0.1 hb0.2 HFR.out).mono ?_
      rintro v w4 ⟨rfl, h4⟩
      have H4 := Lib.hid h4
      clear h4
      go_wp2_with fail
      rcases (show nx + m ≤ b ∨ b < nx + m by omega) with h5 | h5
      · refine (fail_fr hk hng (by omega) 2 nx (Or.inl ⟨h5, rfl, rfl⟩) H4.out).mono ?_
        rintro v w5 ⟨rfl, h6⟩
        have H6 := Lib.hid h6
        clear h6
        go_wp2
        try go_step3
        obtain ⟨⟨z1, z2⟩, ⟨z3, z4, z5⟩, ⟨y1, y2⟩, ⟨y3, y4, y5⟩, ⟨v1, v2⟩, ⟨v3, v4, v5⟩, x1, x2, x3, x4, x5, x6⟩ := Fr.ends H6.out
        go_wp2
        go_region
        go_wp2
        try simp only [Exit.jump]
        exact bodyPost_ret (v := .tuple #[.agg #[.int .u8 2, .int .i64 nx], .agg #[.int .i64 nx, .int .i64 nx, .int .i64 (k - 1)], .int .i64 0]) (by simp [results, Try.results19, go_sem, y1, y2, y3, y4, y5]) rfl ⟨_, _, _, _, _, rfl, ⟨Or.inr (Or.inr (Or.inl ⟨rfl, by rw [HK.out]; exact HK0.out, HNX.out.symm, HNX.out.symm, by rw [HK.out], Or.inl ⟨by rw [HNX.out]; exact h5, rfl, HNX.out.symm⟩⟩))⟩, (by repeat (first | exact Fr.below H6.out | refine Below.drew ?_ | refine Below.setCell ?_ (by first | (simp; done) | (simp; omega)) _))⟩
      · refine (fail_fr hk hng (by omega) 1 (-1) (Or.inr ⟨h5, rfl, rfl⟩) H4.out).mono ?_
        rintro v w5 ⟨rfl, h6⟩
        have H6 := Lib.hid h6
        clear h6
        go_wp2
        try go_step3
        obtain ⟨⟨z1, z2⟩, ⟨z3, z4, z5⟩, ⟨y1, y2⟩, ⟨y3, y4, y5⟩, ⟨v1, v2⟩, ⟨v3, v4, v5⟩, x1, x2, x3, x4, x5, x6⟩ := Fr.ends H6.out
        go_wp2
        go_region
        go_wp2
        try simp only [Exit.jump]
        exact bodyPost_ret (v := .tuple #[.agg #[.int .u8 1, .int .i64 nx], .agg #[.int .i64 nx, .int .i64 (-1), .int .i64 (k - 1)], .int .i64 0]) (by simp [results, Try.results19, go_sem, y1, y2, y3, y4, y5]) rfl ⟨_, _, _, _, _, rfl, ⟨Or.inr (Or.inr (Or.inl ⟨rfl, by rw [HK.out]; exact HK0.out, HNX.out.symm, HNX.out.symm, by rw [HK.out], Or.inr ⟨by rw [HNX.out]; exact h5, rfl, rfl⟩⟩))⟩, (by repeat (first | exact Fr.below H6.out | refine Below.drew ?_ | refine Below.setCell ?_ (by first | (simp; done) | (simp; omega)) _))⟩
  · go_wp2_with fail
    unfold rcells at HFR
    generalize w2.alloc (Obj.cells #[Value.int IntKind.i64 (-1), Value.int IntKind.i64 (-1), Value.int IntKind.i64 k] 41) = W3 at *
    rcases (show n + m ≤ b ∨ b < n + m by omega) with h5 | h5
    · refine (fail_fr hk f3 (by omega) 2 n (Or.inl ⟨h5, rfl, rfl⟩) HFR.out).mono ?_
      rintro v w5 ⟨rfl, h6⟩
      have H6 := Lib.hid h6
      clear h6
      go_wp2
      try go_step3
      obtain ⟨⟨z1, z2⟩, ⟨z3, z4, z5⟩, ⟨y1, y2⟩, ⟨y3, y4, y5⟩, ⟨v1, v2⟩, ⟨v3, v4, v5⟩, x1, x2, x3, x4, x5, x6⟩ := Fr.ends H6.out
      go_wp2
      go_region
      go_wp2
      try simp only [Exit.jump]
      exact bodyPost_ret (v := .tuple #[.agg #[.int .u8 2, .int .i64 n], .agg #[.int .i64 (-1), .int .i64 n, .int .i64 k], .int .i64 0]) (by simp [results, Try.results19, go_sem, y1, y2, y3, y4, y5]) rfl ⟨_, _, _, _, _, rfl, ⟨Or.inr (Or.inr (Or.inr ⟨rfl, rfl, rfl, HK.out.symm, Or.inl ⟨h5, rfl, rfl⟩⟩))⟩, (by repeat (first | exact Fr.below H6.out | refine Below.drew ?_ | refine Below.setCell ?_ (by first | (simp; done) | (simp; omega)) _))⟩
    · refine (fail_fr hk f3 (by omega) 1 (-1) (Or.inr ⟨h5, rfl, rfl⟩) HFR.out).mono ?_
      rintro v w5 ⟨rfl, h6⟩
      have H6 := Lib.hid h6
      clear h6
      go_wp2
      try go_step3
      obtain ⟨⟨z1, z2⟩, ⟨z3, z4, z5⟩, ⟨y1, y2⟩, ⟨y3, y4, y5⟩, ⟨v1, v2⟩, ⟨v3, v4, v5⟩, x1, x2, x3, x4, x5, x6⟩ := Fr.ends H6.out
      go_wp2
      go_region
      go_wp2
      try simp only [Exit.jump]
      exact bodyPost_ret (v := .tuple #[.agg #[.int .u8 1, .int .i64 n], .agg #[.int .i64 (-1), .int .i64 (-1), .int .i64 k], .int .i64 0]) (by simp [results, Try.results19, go_sem, y1, y2, y3, y4, y5]) rfl ⟨_, _, _, _, _, rfl, ⟨Or.inr (Or.inr (Or.inr ⟨rfl, rfl, rfl, HK.out.symm, Or.inr ⟨h5, rfl, rfl⟩⟩))⟩, (by repeat (first | exact Fr.below H6.out | refine Below.drew ?_ | refine Below.setCell ?_ (by first | (simp; done) | (simp; omega)) _))⟩
  · go_wp2_with fail
    unfold rcells at HFR
    generalize w2.alloc (Obj.cells #[Value.int IntKind.i64 (-1), Value.int IntKind.i64 (-1), Value.int IntKind.i64 k] 41) = W3 at *
    go_step3
    refine ⟨rfl, ?_⟩
    obtain ⟨⟨z1, z2⟩, ⟨z3, z4, z5⟩, ⟨y1, y2⟩, ⟨y3, y4, y5⟩, ⟨v1, v2⟩, ⟨v3, v4, v5⟩, x1, x2, x3, x4, x5, x6⟩ := Fr.ends HFR.out
    go_wp2
    go_region
    go_wp2
    try simp only [Exit.jump]
    exact bodyPost_ret (v := .tuple #[.agg #[.int .u8 2, .int .i64 n], .agg #[.int .i64 (-1), .int .i64 (-1), .int .i64 k], .int .i64 0]) (by simp [results, Try.results19, go_sem, y1, y2, y3, y4, y5]) rfl ⟨_, _, _, _, _, rfl, ⟨Or.inl ⟨rfl, rfl, rfl, rfl, rfl, HK.out.symm⟩⟩, (by repeat (first | exact Fr.below HFR.out | refine Below.drew ?_ | refine Below.setCell ?_ (by first | (simp; done) | (simp; omega)) _))⟩
end Go.Proofs.Ytpgdogcgdlijeaa
