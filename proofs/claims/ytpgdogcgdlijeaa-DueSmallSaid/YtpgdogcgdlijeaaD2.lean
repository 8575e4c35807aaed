/- The functions of due, walked (2): Is, Next, Last, Count. Conditions: none beyond each theorem's own premises. -/
import Derived.Test.YtpgdogcgdlijeaaD1
import Derived.Deep.RegionHeld3
namespace Go.Proofs.Ytpgdogcgdlijeaa
open Go.RowKit

def pcells (e o m : Int) : Array Value := #[.int .i64 e, .int .i64 o, .int .i64 m]
def scells (st n : Int) : Array Value := #[.int .u8 st, .int .i64 n]

/-- A world W, only grown since w, with a plan's box as w's first new block. -/
structure One (w : World) (e o m : Int) (W : World) : Prop where
  below : Below w.heap.size w W
  p : Has W w.heap.size 23 (pcells e o m)
section
variable {w W W' : World} {e o m : Int}
theorem One.start (w : World) (e o m : Int) : One w e o m (w.alloc (.cells (pcells e o m) 23)) := ⟨(Below.refl _ _).alloc (Nat.le_refl _) _, Has.made _ _ _⟩
theorem One.on (h : One w e o m W) (k : Below W.heap.size W W') : One w e o m W' := ⟨h.below.trans (k.mono h.below.size), h.p.below k (Has.lt h.p)⟩
theorem One.drew (h : One w e o m W) : One w e o m W.drew := ⟨h.below.drew, h.p.drew⟩
theorem One.all (h : One w e o m W) : One w e o m W ∧ W.cell? ⟨w.heap.size, 0, none⟩ = some (.int .i64 e) ∧ W.cell? ⟨w.heap.size, 1, none⟩ = some (.int .i64 o) ∧ W.cell? ⟨w.heap.size, 2, none⟩ = some (.int .i64 m) :=
  ⟨h, h.p.cell 0, h.p.cell 1, h.p.cell 2⟩
theorem right_one (h : One w e o m W) :
    Calls Try.prog 25 #[.agg #[.int .i64 e, .int .i64 o, .int .i64 m]] W fun x w' => x = .returned (.bool (Du.right e o m)) ∧ One w e o m w' :=
  (right_any e o m W).mono fun _ _ ⟨he, k⟩ => ⟨he, h.on k⟩
theorem tick_one (t : Int) (h : One w e o m W) :
    Calls Try.prog 34 #[.int .i64 t] W fun x w' => x = .returned (.bool (Du.tick t)) ∧ One w e o m w' :=
  (tick_any t W).mono fun _ _ ⟨he, k⟩ => ⟨he, k ▸ h⟩
theorem upTo_one (t : Int) (he : 1 ≤ e) (h0 : 0 ≤ o) (h1 : 0 ≤ t) (h2 : t ≤ 281474976710656) (h : One w e o m W) :
    Calls Try.prog 37 #[.agg #[.int .i64 e, .int .i64 o, .int .i64 m], .int .i64 t] W fun x w' => x = .returned (.int .i64 (Du.upTo e o t)) ∧ One w e o m w' :=
  (upTo_any e o m t W he h0 h1 h2).mono fun _ _ ⟨he, k⟩ => ⟨he, h.on k⟩
end

theorem right_ok {e o m : Int} (h : Du.Ok e o m) : Du.right e o m = true := Du.right_true.2 ⟨h.e1, h.e2, h.o0, h.o1, h.m1, h.m2⟩
theorem tick_ok {t : Int} (h0 : 0 ≤ t) (h1 : t ≤ 281474976710656) : Du.tick t = true := Du.tick_true.2 ⟨h0, h1⟩

set_option maxHeartbeats 4000000 in
theorem is_ok (e o m t : Int) (w : World) (q : Bool) (hk : Du.Ok e o m) (t0 : 0 ≤ t) (t1 : t ≤ 281474976710656) (hqq : (t % e == o) = q) :
    Calls Try.prog 21 #[.agg #[.int .i64 e, .int .i64 o, .int .i64 m], .int .i64 t] w fun x w' => x = .returned (.bool q) ∧ Below w.heap.size w w' := by
  have h1 := Lib.hid (One.start w e o m)
  have hr := right_ok hk
  have ht := tick_ok t0 t1
  have e1 := hk.e1
  have e2 := hk.e2
  have hm : t.tmod e = t % e := Int.tmod_eq_emod_of_nonneg t0
  have hz : ¬ e = 0 := by omega
  have r0 := Int.emod_nonneg t (show e ≠ 0 by omega)
  have r1 := Int.emod_lt_of_pos t (show 0 < e by omega)
  have g1 : IntKind.i64.wrap (t % e) = t % e := IntWalk.i64_in _ (by omega)
  generalize t % e = r at *
  go_enter Try.func21, Try.ntmps21
  go_wp2
  go_region_held3 (fun W => W.cell? ⟨w.heap.size, 0, none⟩ = some (.int .i64 e) ∧ W.cell? ⟨w.heap.size, 1, none⟩ = some (.int .i64 o) ∧ W.cell? ⟨w.heap.size, 2, none⟩ = some (.int .i64 m)) (first | (go_keep; done) | exact (One.all h1.out).2 | exact (One.all (One.drew h1.out)).2 | exact (One.all (One.drew (by assumption))).2 | exact (One.all (by assumption)).2)
    (first | (go_at_call 25; refine (right_one (by first | assumption | exact h1.out | exact One.drew h1.out | exact One.drew (by assumption))).mono ?_; rw [hr]; rintro e w9 ⟨rfl, n9⟩) | (go_at_call 34; refine (tick_one t (by first | assumption | exact One.drew (by assumption))).mono ?_; rw [ht]; rintro e w9 ⟨rfl, n9⟩))
  go_wp2
  go_ret
  exact ⟨rfl, One.below (by first | assumption | exact One.drew (by assumption))⟩

set_option maxHeartbeats 4000000 in
theorem next_ok (e o m t : Int) (w : World) (hk : Du.Ok e o m) (t0 : 0 ≤ t) (t1 : t ≤ 281474976710656) :
    Calls Try.prog 22 #[.agg #[.int .i64 e, .int .i64 o, .int .i64 m], .int .i64 t] w fun x w' => ∃ n f : Int, x = .returned (.tuple #[.int .i64 n, .int .i64 f]) ∧
      ((Du.next e o t ≤ 281474976710656 ∧ n = Du.next e o t ∧ f = 0) ∨ (281474976710656 < Du.next e o t ∧ n = 0 ∧ f = 4)) ∧ Below w.heap.size w w' := by
  have h1 := Lib.hid (One.start w e o m)
  have hr := right_ok hk
  have ht := tick_ok t0 t1
  have e1 := hk.e1
  have e2 := hk.e2
  have o0 := hk.o0
  have o1 := hk.o1
  have hc := Du.next_cases (o := o) (t := t) e1
  have hn := Du.next_ge (t := t) e1 o0
  have hg := Du.next_gt (o := o) (t := t) e1
  have g1 : IntKind.i64.wrap (t + 1) = t + 1 := IntWalk.i64_in _ (by omega)
  have g2 : IntKind.i64.wrap (t + 1 - o) = t + 1 - o := IntWalk.i64_in _ (by omega)
  have hbd := Int.tmod_lt_of_pos (t + 1 - o) (show 0 < e by omega)
  have hbn : -e < (t + 1 - o).tmod e := by
    rcases (show 0 ≤ t + 1 - o ∨ t + 1 - o < 0 by omega) with h | h
    · have := Int.tmod_nonneg (a := t + 1 - o) e h
      omega
    · have h2 : (t + 1 - o).tmod e = -((o - (t + 1)).tmod e) := by rw [← Int.neg_tmod]; congr 1; omega
      have := Int.tmod_lt_of_pos (o - (t + 1)) (show 0 < e by omega)
      omega
  have hz : ¬ e = 0 := by omega
  generalize Du.next e o t = nx at *
  generalize hb : (t + 1 - o).tmod e = b at *
  have g3 : IntKind.i64.wrap b = b := IntWalk.i64_in _ (by omega)
  have g4 : IntKind.i64.wrap (e - b) = e - b := IntWalk.i64_in _ (by omega)
  have hcs := Lib.hid hc
  have HT : Hid (Du.tick nx = true ∧ nx ≤ 281474976710656 ∨ Du.tick nx = false ∧ 281474976710656 < nx) := by
    show _ ∨ _
    rcases (show nx ≤ 281474976710656 ∨ 281474976710656 < nx by omega) with h | h
    · exact Or.inl ⟨tick_ok hn h, h⟩
    · exact Or.inr ⟨Du.tick_false.2 (by omega), h⟩
  rcases hc with ⟨c1, c2, c3⟩ | ⟨c1, c2, c3⟩ | ⟨c1, c2, c3⟩
  · have g5 : IntKind.i64.wrap (t + 1 + (e - b)) = t + 1 + (e - b) := IntWalk.i64_in _ (by omega)
    have d1 : decide (0 < b) = true := decide_eq_true c1
    go_enter Try.func22, Try.ntmps22
    go_wp2_with fail
    refine (right_one h1.out).mono ?_
    rw [hr]
    rintro x w1 ⟨rfl, n1⟩
    obtain ⟨-, p0, p1, p2⟩ := One.all n1
    have HN := Lib.hid n1
    clear n1
    go_wp2_with fail
    refine (tick_any t w1).mono ?_
    rw [ht]
    rintro x w2 ⟨rfl, rfl⟩
    go_wp2_with fail
    rcases HT.out with ⟨h2, h3⟩ | ⟨h2, h3⟩
    · refine (tick_any nx w2).mono ?_
      rw [h2]
      rintro x w3 ⟨rfl, rfl⟩
      go_wp2
      go_ret2
      exact ⟨_, _, rfl, Or.inl ⟨h3, rfl, rfl⟩, HN.out.below⟩
    · refine (tick_any nx w2).mono ?_
      rw [h2]
      rintro x w3 ⟨rfl, rfl⟩
      go_wp2
      go_ret2
      exact ⟨_, _, rfl, Or.inr ⟨h3, rfl, rfl⟩, HN.out.below⟩
  · have d1 : decide (0 < b) = false := decide_eq_false (by omega)
    have d2 : decide (t + 1 < o) = true := decide_eq_true c2
    subst c3
    go_enter Try.func22, Try.ntmps22
    go_wp2_with fail
    refine (right_one h1.out).mono ?_
    rw [hr]
    rintro x w1 ⟨rfl, n1⟩
    obtain ⟨-, p0, p1, p2⟩ := One.all n1
    have HN := Lib.hid n1
    clear n1
    go_wp2_with fail
    refine (tick_any t w1).mono ?_
    rw [ht]
    rintro x w2 ⟨rfl, rfl⟩
    go_wp2_with fail
    refine (tick_any _ w2).mono ?_
    rw [tick_ok hn (by omega)]
    rintro x w3 ⟨rfl, rfl⟩
    go_wp2
    go_ret2
    exact ⟨_, _, rfl, Or.inl ⟨by omega, rfl, rfl⟩, HN.out.below⟩
  · have d1 : decide (0 < b) = false := decide_eq_false (by omega)
    have d2 : decide (t + 1 < o) = false := decide_eq_false (by omega)
    subst c3
    go_enter Try.func22, Try.ntmps22
    go_wp2_with fail
    refine (right_one h1.out).mono ?_
    rw [hr]
    rintro x w1 ⟨rfl, n1⟩
    obtain ⟨-, p0, p1, p2⟩ := One.all n1
    have HN := Lib.hid n1
    clear n1
    go_wp2_with fail
    refine (tick_any t w1).mono ?_
    rw [ht]
    rintro x w2 ⟨rfl, rfl⟩
    go_wp2_with fail
    rcases HT.out with ⟨h2, h3⟩ | ⟨h2, h3⟩
    · refine (tick_any _ w2).mono ?_
      rw [h2]
      rintro x w3 ⟨rfl, rfl⟩
      go_wp2
      go_ret2
      exact ⟨_, _, rfl, Or.inl ⟨h3, rfl, rfl⟩, HN.out.below⟩
    · refine (tick_any _ w2).mono ?_
      rw [h2]
      rintro x w3 ⟨rfl, rfl⟩
      go_wp2
      go_ret2
      exact ⟨_, _, rfl, Or.inr ⟨h3, rfl, rfl⟩, HN.out.below⟩

set_option maxHeartbeats 4000000 in
theorem last_ok (e o m t : Int) (w : World) (hk : Du.Ok e o m) (t0 : 0 ≤ t) (t1 : t ≤ 281474976710656) :
    Calls Try.prog 23 #[.agg #[.int .i64 e, .int .i64 o, .int .i64 m], .int .i64 t] w fun x w' => ∃ n f : Int, x = .returned (.tuple #[.int .i64 n, .int .i64 f]) ∧
      ((o ≤ t ∧ n = Du.last e o t ∧ f = 0) ∨ (t < o ∧ n = 0 ∧ f = 6)) ∧ Below w.heap.size w w' := by
  have h1 := Lib.hid (One.start w e o m)
  have hr := right_ok hk
  have ht := tick_ok t0 t1
  have e1 := hk.e1
  have e2 := hk.e2
  have o0 := hk.o0
  have o1 := hk.o1
  have hz : ¬ e = 0 := by omega
  rcases (show t < o ∨ o ≤ t by omega) with h | h
  · have d1 : decide (t < o) = true := decide_eq_true h
    go_enter Try.func23, Try.ntmps23
    go_wp2_with fail
    refine (right_one h1.out).mono ?_
    rw [hr]
    rintro x w1 ⟨rfl, n1⟩
    obtain ⟨-, p0, p1, p2⟩ := One.all n1
    have HN := Lib.hid n1
    clear n1
    go_wp2_with fail
    refine (tick_any t w1).mono ?_
    rw [ht]
    rintro x w2 ⟨rfl, rfl⟩
    go_wp2
    go_ret2
    exact ⟨_, _, rfl, Or.inr ⟨h, rfl, rfl⟩, HN.out.below⟩
  · have d1 : decide (t < o) = false := decide_eq_false (by omega)
    have hl := Lib.hid (Du.last_eq (e := e) h)
    have b0 := Int.tmod_nonneg (a := t - o) e (by omega)
    have b1 := Int.tmod_lt_of_pos (t - o) (show 0 < e by omega)
    have g1 : IntKind.i64.wrap (t - o) = t - o := IntWalk.i64_in _ (by omega)
    generalize hb : (t - o).tmod e = b at *
    have g2 : IntKind.i64.wrap b = b := IntWalk.i64_in _ (by omega)
    have g3 : IntKind.i64.wrap (t - b) = t - b := IntWalk.i64_in _ (by omega)
    go_enter Try.func23, Try.ntmps23
    go_wp2_with fail
    refine (right_one h1.out).mono ?_
    rw [hr]
    rintro x w1 ⟨rfl, n1⟩
    obtain ⟨-, p0, p1, p2⟩ := One.all n1
    have HN := Lib.hid n1
    clear n1
    go_wp2_with fail
    refine (tick_any t w1).mono ?_
    rw [ht]
    rintro x w2 ⟨rfl, rfl⟩
    go_wp2
    go_ret2
    exact ⟨_, _, rfl, Or.inl ⟨h, hl.out, rfl⟩, HN.out.below⟩

set_option maxHeartbeats 4000000 in
theorem count_ok (e o m s t : Int) (w : World) (hk : Du.Ok e o m) (s0 : 0 ≤ s) (st : s ≤ t) (t1 : t ≤ 281474976710656) :
    Calls Try.prog 20 #[.agg #[.int .i64 e, .int .i64 o, .int .i64 m], .int .i64 s, .int .i64 t] w fun x w' => x = .returned (.tuple #[.int .i64 (Du.upTo e o t - Du.upTo e o s), .int .i64 0]) ∧ Below w.heap.size w w' := by
  have h1 := Lib.hid (One.start w e o m)
  have hr := right_ok hk
  have hs := tick_ok s0 (show s ≤ 281474976710656 by omega)
  have ht := tick_ok (show 0 ≤ t by omega) t1
  have e1 := hk.e1
  have o0 := hk.o0
  have d1 : decide (t < s) = false := decide_eq_false (by omega)
  have u0 := (Du.upTo_spec (o := o) (t := s) e1).u0
  have u1 := Du.up_bounds e1 o0 t1 (Du.upTo_spec (o := o) (t := t) e1)
  have u2 := Du.up_le (o := o) e1 st
  have g1 : IntKind.i64.wrap (Du.upTo e o t - Du.upTo e o s) = Du.upTo e o t - Du.upTo e o s := IntWalk.i64_in _ (by omega)
  go_enter Try.func20, Try.ntmps20
  go_wp2_with fail
  refine (right_one h1.out).mono ?_
  rw [hr]
  rintro x w1 ⟨rfl, n1⟩
  obtain ⟨-, p0, p1, p2⟩ := One.all n1
  have HN := Lib.hid n1
  clear n1
  go_wp2_with fail
  refine (tick_any s w1).mono ?_
  rw [hs]
  rintro x w2 ⟨rfl, rfl⟩
  go_wp2_with fail
  refine (tick_any t w2).mono ?_
  rw [ht]
  rintro x w3 ⟨rfl, rfl⟩
  go_wp2
  go_region_held3 (fun W => W.cell? ⟨w.heap.size, 0, none⟩ = some (.int .i64 e) ∧ W.cell? ⟨w.heap.size, 1, none⟩ = some (.int .i64 o) ∧ W.cell? ⟨w.heap.size, 2, none⟩ = some (.int .i64 m)) (first | (go_keep; done) | exact (One.all HN.out).2 | exact (One.all (One.drew HN.out)).2 | exact (One.all (One.drew (by assumption))).2 | exact (One.all (by assumption)).2)
    (first | (go_at_call 37; refine (upTo_one _ e1 o0 (by omega) (by omega) (by first | assumption | exact One.drew HN.out | exact One.drew (by assumption))).mono ?_; rintro e w9 ⟨rfl, n9⟩))
  go_wp2
  go_ret2
  exact ⟨rfl, One.below (by first | assumption | exact One.drew (by assumption))⟩
end Go.Proofs.Ytpgdogcgdlijeaa
