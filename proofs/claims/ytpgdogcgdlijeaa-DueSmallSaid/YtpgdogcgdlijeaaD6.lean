/- The functions of due, walked (6): Wake, Make; and blocks that a law keeps. Conditions: a right plan, a tick, a phase that fits. -/
import Derived.Test.YtpgdogcgdlijeaaD5
namespace Go.Proofs.Ytpgdogcgdlijeaa
open Go.RowKit

/-- What Wake answers of a phase that fits. -/
structure Du.Wk (e o m st n t r f : Int) : Prop where
  law : (st = 1 ∧ n + m ≤ 281474976710656 ∧ n + m < Du.next e o t ∧ r = n + m ∧ f = 0) ∨
       (¬ (st = 1 ∧ n + m ≤ 281474976710656 ∧ n + m < Du.next e o t) ∧ ((Du.next e o t ≤ 281474976710656 ∧ r = Du.next e o t ∧ f = 0) ∨ (281474976710656 < Du.next e o t ∧ r = 0 ∧ f = 4)))

set_option maxHeartbeats 4000000 in
theorem wake_ok (e o m st n t : Int) (w : World) (hk : Du.Ok e o m) (t0 : 0 ≤ t) (t1 : t ≤ 281474976710656) (hf : Du.fitsP e o m st n t) :
    Calls Try.prog 24 #[.agg #[.int .i64 e, .int .i64 o, .int .i64 m], .agg #[.int .u8 st, .int .i64 n], .int .i64 t] w fun x w' => ∃ r f : Int, x = .returned (.tuple #[.int .i64 r, .int .i64 f]) ∧
      Du.Wk e o m st n t r f ∧ Below w.heap.size w w' := by
  have h1 := Lib.hid (Two.start w e o m st n)
  have m0 := hk.m1
  have m1 := hk.m2
  have e2 := hk.e2
  have cf := fits_ok e o m st n t ((w.alloc (.cells (pcells e o m) 23)).alloc (.cells (scells st n) 25)) hk t0 t1 hf
  unfold pcells scells at cf
  have hst : (st = 1 ∧ 0 ≤ n ∧ n ≤ t) ∨ st = 0 ∨ st = 2 := by
    rcases hf with ⟨h, -⟩ | ⟨-, h2, h3, ⟨h, -⟩ | h⟩
    · exact Or.inr (Or.inl h)
    · exact Or.inl ⟨h, h3, h2⟩
    · exact Or.inr (Or.inr h)
  clear hf
  go_enter Try.func24, Try.ntmps24
  go_wp2_with fail
  refine cf.mono ?_
  rintro x w1 ⟨rfl, hb1⟩
  have H1 := Lib.hid (h1.out.on hb1)
  obtain ⟨-, p0, p1, p2, p3, p4⟩ := Two.all H1.out
  clear hb1 cf
  go_wp2_with fail
  refine (next_ok e o m t _ hk t0 t1).mono ?_
  rintro x w2 ⟨nx, f, rfl, hor, hb2⟩
  have H2 := Lib.hid (H1.out.on hb2)
  obtain ⟨-, q0, q1, q2, q3, q4⟩ := Two.all H2.out
  clear hb2 p0 p1 p2 p3 p4
  have hng := Du.next_ge (o := o) (t := t) hk.e1 hk.o0
  obtain ⟨D, hD⟩ : ∃ D, Du.next e o t = D := ⟨_, rfl⟩
  rw [hD] at hor hng
  have HD := Lib.hid hD
  clear hD
  rcases hst with ⟨rfl, n0, n1⟩ | rfl | rfl
  · have g1 : IntKind.i64.wrap (n + m) = n + m := IntWalk.i64_in _ (by omega)
    go_wp2_with fail
    rcases (show n + m ≤ 281474976710656 ∨ 281474976710656 < n + m by omega) with h2 | h2
    · refine (tick_any _ w2).mono ?_
      rw [tick_ok (by omega) h2]
      rintro x w3 ⟨rfl, rfl⟩
      rcases hor with ⟨h3, rfl, rfl⟩ | ⟨h3, rfl, rfl⟩
      · rcases h4 : decide (n + m < nx) with _ | _
        · go_wp2
          go_ret2
          exact ⟨_, _, rfl, ⟨by rw [HD.out]; exact Or.inr ⟨fun h => by have := of_decide_eq_false h4; omega, Or.inl ⟨h3, rfl, rfl⟩⟩⟩, H2.out.below⟩
        · go_wp2
          go_ret2
          exact ⟨_, _, rfl, ⟨by rw [HD.out]; exact Or.inl ⟨rfl, h2, of_decide_eq_true h4, rfl, rfl⟩⟩, H2.out.below⟩
      · go_wp2
        go_ret2
        exact ⟨_, _, rfl, ⟨by rw [HD.out]; exact Or.inl ⟨rfl, h2, by omega, rfl, rfl⟩⟩, H2.out.below⟩
    · refine (tick_any _ w2).mono ?_
      rw [Du.tick_false.2 (show ¬ (0 ≤ n + m ∧ n + m ≤ 281474976710656) by omega)]
      rintro x w3 ⟨rfl, rfl⟩
      go_wp2
      go_ret2
      exact ⟨_, _, rfl, ⟨by rw [HD.out]; exact Or.inr ⟨fun h => by omega, hor⟩⟩, H2.out.below⟩
  · go_wp2
    go_ret2
    exact ⟨_, _, rfl, ⟨by rw [HD.out]; exact Or.inr ⟨fun h => by omega, hor⟩⟩, H2.out.below⟩
  · go_wp2
    go_ret2
    exact ⟨_, _, rfl, ⟨by rw [HD.out]; exact Or.inr ⟨fun h => by omega, hor⟩⟩, H2.out.below⟩

/-- Blocks that are kept: their numbers, types and cells. -/
structure Kp (W0 : World) (L : List (Nat × TypeId × Array Value)) (W : World) : Prop where
  below : Below W0.heap.size W0 W
  has : ∀ x ∈ L, Has W x.1 x.2.1 x.2.2
section
variable {W0 W W' : World} {L : List (Nat × TypeId × Array Value)} {x : Nat × TypeId × Array Value}
theorem Kp.start (W : World) : Kp W [] W := ⟨Below.refl _ _, fun _ h => by cases h⟩
theorem Kp.on (h : Kp W0 L W) (k : Below W.heap.size W W') : Kp W0 L W' := ⟨h.below.trans (k.mono h.below.size), fun x hx => (h.has x hx).below k (Has.lt (h.has x hx))⟩
theorem Kp.add (h : Kp W0 L W) (t : TypeId) (cs : Array Value) : Kp W0 ((W.heap.size, t, cs) :: L) (W.alloc (.cells cs t)) :=
  ⟨h.below.alloc h.below.size _, fun x hx => by
    rcases List.mem_cons.1 hx with rfl | hx
    · exact Has.made _ _ _
    · exact (h.has x hx).alloc _⟩
theorem Kp.cell (h : Kp W0 L W) (hx : x ∈ L) : ∀ i, W.cell? ⟨x.1, i, none⟩ = x.2.2[i]? := (h.has x hx).cell
theorem Kp.lt (h : Kp W0 L W) (hx : x ∈ L) : x.1 < W.heap.size := Has.lt (h.has x hx)
theorem Kp.free (h : Kp W0 L W) (hx : x ∈ L) : ∀ i, W.frozen? ⟨x.1, i, none⟩ = false := (h.has x hx).free
end

set_option maxHeartbeats 4000000 in
theorem make_ok (h e o m : Int) (w : World) (h0 : 0 ≤ h) (e1 : 1 ≤ e) (e2 : e ≤ 1099511627776) (m1 : 1 ≤ m) (m2 : m ≤ e) (ho : h % e = o) :
    Calls Try.prog 14 #[.int .u64 h, .int .i64 e, .int .i64 m] w fun x w' => x = .returned (.tuple #[.agg #[.int .i64 e, .int .i64 o, .int .i64 m], .int .i64 0]) ∧ Below w.heap.size w w' := by
  have hr : Du.right e 0 m = true := Du.right_true.2 ⟨e1, e2, by omega, by omega, m1, m2⟩
  have hm : h.tmod e = o := by rw [Int.tmod_eq_emod_of_nonneg h0]; exact ho
  have o0 := Int.emod_nonneg h (show e ≠ 0 by omega)
  have o1 := Int.emod_lt_of_pos h (show 0 < e by omega)
  rw [ho] at o0 o1
  have hz : ¬ e = 0 := by omega
  have g1 : IntKind.u64.wrap e = e := IntWalk.u64_in _ (by omega)
  have g2 : IntKind.u64.wrap o = o := IntWalk.u64_in _ (by omega)
  have g3 : IntKind.i64.wrap o = o := IntWalk.i64_in _ (by omega)
  have K0 := Lib.hid (((Kp.start w).add 23 #[.int .i64 0, .int .i64 0, .int .i64 0]).add 23 #[.int .i64 e, .int .i64 0, .int .i64 m])
  have s1 : (w.alloc (.cells #[.int .i64 0, .int .i64 0, .int .i64 0] 23)).heap.size = w.heap.size + 1 := size_of _ _
  clear ho
  go_enter Try.func14, Try.ntmps14
  go_wp2_with fail
  refine (right_any e 0 m _).mono ?_
  rw [hr]
  rintro x w1 ⟨rfl, hb⟩
  have K1 := K0.out.on hb
  have c1 := K1.cell (.head _)
  have f1 := K1.free (.head _)
  have c0 := K1.cell (.tail _ (.head _))
  have f0 := K1.free (.tail _ (.head _))
  have KB := Lib.hid K1.below
  dsimp only at c0 c1 f0 f1
  rw [s1] at c1 f1
  clear K1 hb
  go_wp2
  exact bodyPost_ret (v := .tuple #[.agg #[.int .i64 e, .int .i64 o, .int .i64 m], .int .i64 0]) (by simp [results, Try.results14, go_sem, c0]) rfl ⟨rfl, (by repeat (first | exact KB.out | refine Below.drew ?_ | refine Below.setCell ?_ (by first | exact Nat.le_refl _ | (simp; done) | (simp; omega)) _))⟩
end Go.Proofs.Ytpgdogcgdlijeaa
