/- The functions of due, walked (3): Fits; and Made, phase of the laws. Conditions: none beyond each theorem's own premises. -/
import Derived.Test.YtpgdogcgdlijeaaD2
namespace Go.Proofs.Ytpgdogcgdlijeaa
open Go.RowKit

/-- A world W, only grown since w, with a plan's box as w's first new block, a phase's box as the second. -/
structure Two (w : World) (e o m st n : Int) (W : World) : Prop where
  below : Below w.heap.size w W
  p : Has W w.heap.size 23 (pcells e o m)
  s : Has W (w.heap.size + 1) 25 (scells st n)
theorem size_of (w : World) (o : Obj) : (w.alloc o).heap.size = w.heap.size + 1 := Array.size_push _
section
variable {w W W' : World} {e o m st n : Int}
theorem Two.start (w : World) (e o m st n : Int) : Two w e o m st n ((w.alloc (.cells (pcells e o m) 23)).alloc (.cells (scells st n) 25)) :=
  ⟨((Below.refl _ _).alloc (Nat.le_refl _) _).alloc (by rw [size_of]; omega) _, (Has.made _ _ _).alloc _, (size_of w (.cells (pcells e o m) 23)) ▸ Has.made _ _ _⟩
theorem Two.on (h : Two w e o m st n W) (k : Below W.heap.size W W') : Two w e o m st n W' := ⟨h.below.trans (k.mono h.below.size), h.p.below k (Has.lt h.p), h.s.below k (Has.lt h.s)⟩
theorem Two.all (h : Two w e o m st n W) : Two w e o m st n W ∧ W.cell? ⟨w.heap.size, 0, none⟩ = some (.int .i64 e) ∧ W.cell? ⟨w.heap.size, 1, none⟩ = some (.int .i64 o) ∧ W.cell? ⟨w.heap.size, 2, none⟩ = some (.int .i64 m) ∧
    W.cell? ⟨w.heap.size + 1, 0, none⟩ = some (.int .u8 st) ∧ W.cell? ⟨w.heap.size + 1, 1, none⟩ = some (.int .i64 n) :=
  ⟨h, h.p.cell 0, h.p.cell 1, h.p.cell 2, h.s.cell 0, h.s.cell 1⟩
theorem right_two (h : Two w e o m st n W) :
    Calls Try.prog 25 #[.agg #[.int .i64 e, .int .i64 o, .int .i64 m]] W fun x w' => x = .returned (.bool (Du.right e o m)) ∧ Two w e o m st n w' :=
  (right_any e o m W).mono fun _ _ ⟨he, k⟩ => ⟨he, h.on k⟩
end

set_option maxHeartbeats 4000000 in
theorem fits_ok (e o m st n t : Int) (w : World) (hk : Du.Ok e o m) (t0 : 0 ≤ t) (t1 : t ≤ 281474976710656) (hf : Du.fitsP e o m st n t) :
    Calls Try.prog 18 #[.agg #[.int .i64 e, .int .i64 o, .int .i64 m], .agg #[.int .u8 st, .int .i64 n], .int .i64 t] w fun x w' => x = .returned (.bool true) ∧ Below w.heap.size w w' := by
  have h1 := Lib.hid (Two.start w e o m st n)
  have hr := right_ok hk
  have ht := tick_ok t0 t1
  have m0 := hk.m1
  have m1 := hk.m2
  have e2 := hk.e2
  rcases hf with ⟨rfl, rfl⟩ | ⟨hd, hl, hp, ⟨rfl, hx⟩ | rfl⟩
  · go_enter Try.func18, Try.ntmps18
    go_wp2_with fail
    refine (right_two h1.out).mono ?_
    rw [hr]
    rintro x w1 ⟨rfl, n1⟩
    obtain ⟨-, p0, p1, p2, p3, p4⟩ := Two.all n1
    have HN := Lib.hid n1
    clear n1
    go_wp2_with fail
    refine (tick_any t w1).mono ?_
    rw [ht]
    rintro x w2 ⟨rfl, rfl⟩
    go_wp2
    go_ret
    exact ⟨rfl, HN.out.below⟩
  · have hi : (n % e == o) = true := by rw [(Du.due_iff hk.e1 hk.o0 hk.o1 hp).2 hd]; simp
    have d1 : decide (n ≤ t) = true := decide_eq_true hl
    have d2 : decide (t < n + m) = true := decide_eq_true hx
    have g1 : IntKind.i64.wrap (n + m) = n + m := IntWalk.i64_in _ (by omega)
    go_enter Try.func18, Try.ntmps18
    go_wp2_with fail
    refine (right_two h1.out).mono ?_
    rw [hr]
    rintro x w1 ⟨rfl, n1⟩
    obtain ⟨-, p0, p1, p2, p3, p4⟩ := Two.all n1
    have HN := Lib.hid n1
    clear n1
    go_wp2_with fail
    refine (tick_any t w1).mono ?_
    rw [ht]
    rintro x w2 ⟨rfl, rfl⟩
    go_wp2_with fail
    refine (is_ok e o m n _ true hk hp (by omega) hi).mono ?_
    rintro x w3 ⟨rfl, hb⟩
    have HN3 := Lib.hid (HN.out.on hb)
    obtain ⟨-, q0, q1, q2, q3, q4⟩ := Two.all HN3.out
    clear hb
    go_wp2
    go_ret
    exact ⟨rfl, HN3.out.below⟩
  · have hi : (n % e == o) = true := by rw [(Du.due_iff hk.e1 hk.o0 hk.o1 hp).2 hd]; simp
    have d1 : decide (n ≤ t) = true := decide_eq_true hl
    go_enter Try.func18, Try.ntmps18
    go_wp2_with fail
    refine (right_two h1.out).mono ?_
    rw [hr]
    rintro x w1 ⟨rfl, n1⟩
    obtain ⟨-, p0, p1, p2, p3, p4⟩ := Two.all n1
    have HN := Lib.hid n1
    clear n1
    go_wp2_with fail
    refine (tick_any t w1).mono ?_
    rw [ht]
    rintro x w2 ⟨rfl, rfl⟩
    go_wp2_with fail
    refine (is_ok e o m n _ true hk hp (by omega) hi).mono ?_
    rintro x w3 ⟨rfl, hb⟩
    have HN3 := Lib.hid (HN.out.on hb)
    obtain ⟨-, q0, q1, q2, q3, q4⟩ := Two.all HN3.out
    clear hb
    go_wp2
    go_ret
    exact ⟨rfl, HN3.out.below⟩

/-- A plan made of numbers. -/
structure MadeOf (x y z e o m : Int) : Prop where
  e_ : e = 1 + x % 1099511627776
  o_ : o = y % e
  m_ : m = 1 + z % e
  ok : Du.Ok e o m
theorem made_of (x y z : Int) : ∃ e o m, MadeOf x y z e o m := by
  have h0 := Int.emod_nonneg x (show (1099511627776 : Int) ≠ 0 by omega)
  have h1 := Int.emod_lt_of_pos x (show (0 : Int) < 1099511627776 by omega)
  obtain ⟨e, he⟩ : ∃ e, e = 1 + x % 1099511627776 := ⟨_, rfl⟩
  have h2 := Int.emod_nonneg y (show e ≠ 0 by omega)
  have h3 := Int.emod_lt_of_pos y (show 0 < e by omega)
  have h4 := Int.emod_nonneg z (show e ≠ 0 by omega)
  have h5 := Int.emod_lt_of_pos z (show 0 < e by omega)
  exact ⟨e, _, _, he, rfl, rfl, ⟨by omega, by omega, by omega, by omega, by omega, by omega⟩⟩

set_option maxHeartbeats 4000000 in
theorem made_any (x y z e o m : Int) (w : World) (hx0 : 0 ≤ x) (hy0 : 0 ≤ y) (hz0 : 0 ≤ z) (h : MadeOf x y z e o m) :
    Calls Try.prog 16 #[.int .u64 x, .int .u64 y, .int .u64 z] w fun v w' => v = .returned (.agg #[.int .i64 e, .int .i64 o, .int .i64 m]) ∧ Below w.heap.size w w' := by
  obtain ⟨he, ho, hm, hk⟩ := h
  have e1 := hk.e1
  have e2 := hk.e2
  have o0 := hk.o0
  have o1 := hk.o1
  have m0 := hk.m1
  have m1 := hk.m2
  have ex : x.tmod 1099511627776 = x % 1099511627776 := Int.tmod_eq_emod_of_nonneg hx0
  have ey : y.tmod e = o := by rw [ho]; exact Int.tmod_eq_emod_of_nonneg hy0
  have ez : z.tmod e = m - 1 := by rw [hm, Int.tmod_eq_emod_of_nonneg hz0]; omega
  have hz : ¬ e = 0 := by omega
  have hE : 1 + x % 1099511627776 = e := he.symm
  have hM : 1 + (m - 1) = m := by omega
  have g1 : IntKind.i64.wrap o = o := IntWalk.i64_in _ (by omega)
  have g2 : IntKind.i64.wrap (m - 1) = m - 1 := IntWalk.i64_in _ (by omega)
  have g3 : IntKind.i64.wrap m = m := IntWalk.i64_in _ (by omega)
  have g4 : IntKind.u64.wrap e = e := IntWalk.u64_in _ (by omega)
  have g5 : IntKind.u64.wrap o = o := IntWalk.u64_in _ (by omega)
  have g6 : IntKind.u64.wrap (m - 1) = m - 1 := IntWalk.u64_in _ (by omega)
  clear he ho hm hk
  go_enter Try.func16, Try.ntmps16
  go_wp2
  go_region_held3 (fun W => W.cell? ⟨w.heap.size + 1, 0, none⟩ = some (.int .i64 e)) (first | (go_keep; done) | (go_simp; done) | (simp; done))
    (first | fail)
  go_wp2
  exact bodyPost_ret (v := .agg #[.int .i64 e, .int .i64 o, .int .i64 m]) (by simp [results, Try.results16, go_sem]) rfl ⟨rfl, (((Below.refl _ _).alloc (Nat.le_refl _) _).alloc (by rw [size_of]; omega) _).drew⟩

/-- Phases that are made of numbers fit. -/
theorem Du.back_fits {e o m t k : Int} (hk : Du.Ok e o m) (ht : o ≤ t) (hn : 0 ≤ Du.last e o t - k * e) (h0 : 0 ≤ k) : Du.Due e o (Du.last e o t - k * e) ∧ Du.last e o t - k * e ≤ t := by
  have hs := Du.upTo_spec (e := e) (o := o) (t := t) hk.e1
  unfold Du.last at *
  have e1 : (Du.upTo e o t - 1 - k) * e = (Du.upTo e o t - 1) * e - k * e := by rw [Int.sub_mul]
  have e2 := Int.mul_nonneg h0 (show 0 ≤ e by have := hk.e1; omega)
  refine ⟨⟨Du.upTo e o t - 1 - k, ?_, by omega⟩, ?_⟩
  · rcases (show 0 ≤ Du.upTo e o t - 1 - k ∨ Du.upTo e o t - 1 - k ≤ -1 by omega) with h | h
    · exact h
    · have := Du.mul_le hk.e1 h
      have := hk.o1
      omega
  · rcases hs.low with h | h <;> omega
theorem Du.last_bounds {e o m t : Int} (hk : Du.Ok e o m) (ht : o ≤ t) : 0 ≤ Du.last e o t ∧ Du.last e o t ≤ t ∧ t < Du.last e o t + e := by
  have hs := Du.upTo_spec (e := e) (o := o) (t := t) hk.e1
  unfold Du.last at *
  have e1 : (Du.upTo e o t - 1) * e = Du.upTo e o t * e - e := by rw [Int.sub_mul, Int.one_mul]
  have o0 := hk.o0
  have hi := hs.hi
  rcases hs.low with h | ⟨h, h2, h3⟩
  · omega
  · have := Int.mul_nonneg (show 0 ≤ Du.upTo e o t - 1 by omega) (show 0 ≤ e by have := hk.e1; omega)
    omega

set_option maxHeartbeats 4000000 in
theorem phase_any (e o m t s k : Int) (w : World) (hk : Du.Ok e o m) (t0 : 0 ≤ t) (t1 : t ≤ 281474976710656) (s0 : 0 ≤ s) (k0 : 0 ≤ k) :
    Calls Try.prog 17 #[.agg #[.int .i64 e, .int .i64 o, .int .i64 m], .int .i64 t, .int .u8 s, .int .u64 k] w fun v w' => ∃ st n : Int, v = .returned (.agg #[.int .u8 st, .int .i64 n]) ∧ Du.fitsP e o m st n t ∧ 0 ≤ st ∧ st ≤ 2 ∧ Below w.heap.size w w' := by
  have hsm : s.tmod 3 = s % 3 := Int.tmod_eq_emod_of_nonneg s0
  have hkm : k.tmod 4 = k % 4 := Int.tmod_eq_emod_of_nonneg k0
  have h1 := Lib.hid (show Below w.heap.size w ((w.alloc (.cells (pcells e o m) 23)).alloc (.cells (scells 0 0) 25)) from ((Below.refl _ _).alloc (Nat.le_refl _) _).alloc (by rw [size_of]; omega) _)
  have e1 := hk.e1
  have e2 := hk.e2
  have mm := hk.m2
  have m0 := hk.m1
  have hz : ¬ e = 0 := by omega
  have HT := Lib.hid (Two.start w e o m 0 0)
  go_enter Try.func17, Try.ntmps17
  go_wp2_with fail
  refine (last_ok e o m t _ hk t0 t1).mono ?_
  rintro x w1 ⟨ls, f, rfl, hls, hb1⟩
  have HN := Lib.hid (HT.out.on hb1)
  obtain ⟨-, p0, p1, p2, p3, p4⟩ := Two.all HN.out
  clear hb1 HT h1
  have hlow : w.heap.size + 1 < w1.heap.size := Has.lt HN.out.s
  have hlow0 : w.heap.size < w1.heap.size := Has.lt HN.out.p
  have hf0 : w1.frozen? ⟨w.heap.size + 1, 0, none⟩ = false := HN.out.s.free 0
  have hf1 : w1.frozen? ⟨w.heap.size + 1, 1, none⟩ = false := HN.out.s.free 1
  rcases hls with ⟨a1, a2, rfl⟩ | ⟨a1, rfl, rfl⟩
  · rcases (show s % 3 = 0 ∨ ¬ s % 3 = 0 by omega) with hs | hs
    · have ds : (s % 3 == 0) = true := by simp; omega
      have HB := Lib.hid ((HN.out.below.setCell (p := ⟨w.heap.size + 1, 0, none⟩) (by simp) (.int .u8 0)).setCell (p := ⟨w.heap.size + 1, 1, none⟩) (by simp) (.int .i64 0))
      go_wp2
      exact bodyPost_ret (v := .agg #[.int .u8 0, .int .i64 0]) (by simp [results, Try.results17, go_sem, p3, p4]) rfl ⟨0, 0, rfl, Or.inl ⟨rfl, rfl⟩, by omega, by omega, HB.out⟩
    · have ds : (s % 3 == 0) = false := by simp; omega
      have hlb := Du.last_bounds hk a1
      rw [← a2] at hlb
      have r0 := Int.emod_nonneg k (show (4 : Int) ≠ 0 by omega)
      have r1 := Int.emod_lt_of_pos k (show (0 : Int) < 4 by omega)
      have hbf := fun h => Du.back_fits (k := k % 4) hk a1 h r0
      have hle := fun h => Du.back_fits (k := 0) hk a1 h (Int.le_refl 0)
      rw [← a2] at hbf hle
      have hq0 := Int.mul_nonneg r0 (show 0 ≤ e by omega)
      have hq1 := Int.mul_le_mul_of_nonneg_right (show k % 4 ≤ 4 by omega) (show 0 ≤ e by omega)
      generalize k % 4 = q at *
      have g1 : IntKind.i64.wrap q = q := IntWalk.i64_in _ (by omega)
      have g2 : IntKind.i64.wrap (q * e) = q * e := IntWalk.i64_in _ (by omega)
      have g3 : IntKind.i64.wrap (ls - q * e) = ls - q * e := IntWalk.i64_in _ (by omega)
      have g4 : IntKind.i64.wrap (ls + m) = ls + m := IntWalk.i64_in _ (by omega)
      have g5 : IntKind.i64.wrap ls = ls := IntWalk.i64_in _ (by omega)
      have due0 : Du.Due e o ls := by
        have := (hle (by omega)).1
        rwa [show ls - 0 * e = ls by omega] at this
      clear a2 hle
      rcases hw1 : decide (t < ls + m) with _ | _
      · rcases hw2 : decide (ls - q * e < 0) with _ | _
        · go_wp2
          all_goals exact bodyPost_ret (v := .agg #[.int .u8 2, .int .i64 (ls - q * e)]) (by simp [results, Try.results17, go_sem, p3, p4, hlow]) rfl ⟨2, _, rfl, Or.inr ⟨(hbf (by simpa using hw2)).1, (hbf (by simpa using hw2)).2, by simpa using hw2, Or.inr rfl⟩, by omega, by omega, (by repeat (first | exact HN.out.below | refine Below.drew ?_ | refine Below.alloc ?_ (by first | exact HN.out.below.size | (simp; omega)) _ | refine Below.setCell ?_ (by first | exact Nat.le_refl _ | (simp; done) | (simp; omega)) _))⟩
        · go_wp2
          all_goals exact bodyPost_ret (v := .agg #[.int .u8 2, .int .i64 ls]) (by simp [results, Try.results17, go_sem, p3, p4, hlow]) rfl ⟨2, _, rfl, Or.inr ⟨due0, by omega, by omega, Or.inr rfl⟩, by omega, by omega, (by repeat (first | exact HN.out.below | refine Below.drew ?_ | refine Below.alloc ?_ (by first | exact HN.out.below.size | (simp; omega)) _ | refine Below.setCell ?_ (by first | exact Nat.le_refl _ | (simp; done) | (simp; omega)) _))⟩
      · rcases hs1 : (s % 3 == 1) with _ | _
        · rcases hw2 : decide (ls - q * e < 0) with _ | _
          · go_wp2
            all_goals exact bodyPost_ret (v := .agg #[.int .u8 2, .int .i64 (ls - q * e)]) (by simp [results, Try.results17, go_sem, p3, p4, hlow]) rfl ⟨2, _, rfl, Or.inr ⟨(hbf (by simpa using hw2)).1, (hbf (by simpa using hw2)).2, by simpa using hw2, Or.inr rfl⟩, by omega, by omega, (by repeat (first | exact HN.out.below | refine Below.drew ?_ | refine Below.alloc ?_ (by first | exact HN.out.below.size | (simp; omega)) _ | refine Below.setCell ?_ (by first | exact Nat.le_refl _ | (simp; done) | (simp; omega)) _))⟩
          · go_wp2
            all_goals exact bodyPost_ret (v := .agg #[.int .u8 2, .int .i64 ls]) (by simp [results, Try.results17, go_sem, p3, p4, hlow]) rfl ⟨2, _, rfl, Or.inr ⟨due0, by omega, by omega, Or.inr rfl⟩, by omega, by omega, (by repeat (first | exact HN.out.below | refine Below.drew ?_ | refine Below.alloc ?_ (by first | exact HN.out.below.size | (simp; omega)) _ | refine Below.setCell ?_ (by first | exact Nat.le_refl _ | (simp; done) | (simp; omega)) _))⟩
        · rcases hw2 : decide (ls - q * e < 0) with _ | _
          · go_wp2
            exact bodyPost_ret (v := .agg #[.int .u8 1, .int .i64 ls]) (by simp [results, Try.results17, go_sem, p3, p4, hlow]) rfl ⟨1, _, rfl, Or.inr ⟨due0, by omega, by omega, Or.inl ⟨rfl, of_decide_eq_true hw1⟩⟩, by omega, by omega, (by repeat (first | exact HN.out.below | refine Below.drew ?_ | refine Below.alloc ?_ (by first | exact HN.out.below.size | (simp; omega)) _ | refine Below.setCell ?_ (by first | exact Nat.le_refl _ | (simp; done) | (simp; omega)) _))⟩
          · go_wp2
            exact bodyPost_ret (v := .agg #[.int .u8 1, .int .i64 ls]) (by simp [results, Try.results17, go_sem, p3, p4, hlow]) rfl ⟨1, _, rfl, Or.inr ⟨due0, by omega, by omega, Or.inl ⟨rfl, of_decide_eq_true hw1⟩⟩, by omega, by omega, (by repeat (first | exact HN.out.below | refine Below.drew ?_ | refine Below.alloc ?_ (by first | exact HN.out.below.size | (simp; omega)) _ | refine Below.setCell ?_ (by first | exact Nat.le_refl _ | (simp; done) | (simp; omega)) _))⟩
  · have HB := Lib.hid ((HN.out.below.setCell (p := ⟨w.heap.size + 1, 0, none⟩) (by simp) (.int .u8 0)).setCell (p := ⟨w.heap.size + 1, 1, none⟩) (by simp) (.int .i64 0))
    go_wp2
    exact bodyPost_ret (v := .agg #[.int .u8 0, .int .i64 0]) (by simp [results, Try.results17, go_sem, p3, p4]) rfl ⟨0, 0, rfl, Or.inl ⟨rfl, rfl⟩, by omega, by omega, HB.out⟩
end Go.Proofs.Ytpgdogcgdlijeaa
