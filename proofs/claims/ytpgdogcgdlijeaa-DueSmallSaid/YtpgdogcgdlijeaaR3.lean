/- The reference's pass, walked. Conditions: a right plan, a tick, a phase and a report in bounds. -/
import Derived.Test.YtpgdogcgdlijeaaR2
namespace Go.Proofs.Ytpgdogcgdlijeaa
open Go.RowKit

theorem Kp.rest {W0 W : World} {L : List (Nat × TypeId × Array Value)} {x : Nat × TypeId × Array Value} {g : Nat} {t : TypeId} {cs : Array Value} (h : Kp W0 L W) (hx : x ∈ L) (e1 : x.1 = g) (e2 : x.2.1 = t) (e3 : x.2.2 = cs) : Has W g t cs := by
  have := h.has x hx
  rwa [e1, e2, e3] at this

set_option maxRecDepth 100000 in
set_option maxHeartbeats 40000000 in
theorem pass_any (e o m st n b f k t : Int) (w : World) (hk : Du.Ok e o m) (t0 : 0 ≤ t) (t1 : t ≤ 281474976710656) (n0 : 0 ≤ n) (n1 : n ≤ 281474976710656) (k0 : 0 ≤ k) (k1 : k ≤ 281474976710657) :
    Calls Try.prog 38 #[.agg #[.int .i64 e, .int .i64 o, .int .i64 m], .agg #[.int .u8 st, .int .i64 n], .agg #[.int .i64 b, .int .i64 f, .int .i64 k], .int .i64 t] w fun v w' => ∃ st' n' b' f' k' : Int,
      v = .returned (.tuple #[.agg #[.int .u8 st', .int .i64 n'], .agg #[.int .i64 b', .int .i64 f', .int .i64 k']]) ∧ Du.Pass e o m st n b f k t st' n' b' f' k' ∧ Below w.heap.size w w' := by
  have e2 := hk.e2
  have m1 := hk.m1
  have m2 := hk.m2
  have g1 : IntKind.i64.wrap (n + m) = n + m := IntWalk.i64_in _ (by omega)
  have g2 : IntKind.i64.wrap (k + 1) = k + 1 := IntWalk.i64_in _ (by omega)
  rcases (show (st = 1 ∧ t = n + m) ∨ ¬ (st = 1 ∧ t = n + m) by omega) with hlate | hlate
  · obtain ⟨rfl, hlate⟩ := hlate
    have d1 : (t == n + m) = true := by simp; exact hlate
    have HL := Lib.hid hlate
    clear hlate
    rcases hq : (t % e == o) with _ | _
    · have hd : t % e ≠ o := by simpa using hq
      have K0 := Lib.hid ((((((Kp.start w).add 33 #[.int .i64 e, .int .i64 o, .int .i64 m]).add 56 #[.int .u8 2, .int .i64 n]).add 63 #[.int .i64 b, .int .i64 n, .int .i64 k]).add 56 #[.int .u8 0, .int .i64 0]).add 63 #[.int .i64 0, .int .i64 0, .int .i64 0])
      go_enter Try.func38, Try.ntmps38
      go_wp2_with fail
      refine (ris_ok e o m t _ false hk t0 t1 hq).mono ?_
      rintro v w1 ⟨rfl, hb⟩
      have K1 := Lib.hid (K0.out.on hb)
      clear hb
      have h_y : Has w1 (w.heap.size + 1 + 1 + 1 + 1) 63 #[.int .i64 0, .int .i64 0, .int .i64 0] := K1.out.rest (.head _) (by simp) rfl rfl
      have c_y0 : w1.cell? ⟨w.heap.size + 1 + 1 + 1 + 1, 0, none⟩ = some (.int .i64 0) := h_y.cell 0
      have f_y0 := h_y.free 0
      have c_y1 : w1.cell? ⟨w.heap.size + 1 + 1 + 1 + 1, 1, none⟩ = some (.int .i64 0) := h_y.cell 1
      have f_y1 := h_y.free 1
      have c_y2 : w1.cell? ⟨w.heap.size + 1 + 1 + 1 + 1, 2, none⟩ = some (.int .i64 0) := h_y.cell 2
      have f_y2 := h_y.free 2
      clear h_y
      have h_x : Has w1 (w.heap.size + 1 + 1 + 1) 56 #[.int .u8 0, .int .i64 0] := K1.out.rest (.tail _ (.head _)) (by simp) rfl rfl
      have c_x0 : w1.cell? ⟨w.heap.size + 1 + 1 + 1, 0, none⟩ = some (.int .u8 0) := h_x.cell 0
      have f_x0 := h_x.free 0
      have c_x1 : w1.cell? ⟨w.heap.size + 1 + 1 + 1, 1, none⟩ = some (.int .i64 0) := h_x.cell 1
      have f_x1 := h_x.free 1
      clear h_x
      have h_r : Has w1 (w.heap.size + 1 + 1) 63 #[.int .i64 b, .int .i64 n, .int .i64 k] := K1.out.rest (.tail _ (.tail _ (.head _))) (by simp) rfl rfl
      have c_r0 : w1.cell? ⟨w.heap.size + 1 + 1, 0, none⟩ = some (.int .i64 b) := h_r.cell 0
      have f_r0 := h_r.free 0
      have c_r1 : w1.cell? ⟨w.heap.size + 1 + 1, 1, none⟩ = some (.int .i64 n) := h_r.cell 1
      have f_r1 := h_r.free 1
      have c_r2 : w1.cell? ⟨w.heap.size + 1 + 1, 2, none⟩ = some (.int .i64 k) := h_r.cell 2
      have f_r2 := h_r.free 2
      clear h_r
      have h_s : Has w1 (w.heap.size + 1) 56 #[.int .u8 2, .int .i64 n] := K1.out.rest (.tail _ (.tail _ (.tail _ (.head _)))) (by simp) rfl rfl
      have c_s0 : w1.cell? ⟨w.heap.size + 1, 0, none⟩ = some (.int .u8 2) := h_s.cell 0
      have f_s0 := h_s.free 0
      have c_s1 : w1.cell? ⟨w.heap.size + 1, 1, none⟩ = some (.int .i64 n) := h_s.cell 1
      have f_s1 := h_s.free 1
      clear h_s
      have KB := Lib.hid K1.out.below
      go_wp2
      go_region
      go_wp2
      exact bodyPost_ret (v := .tuple #[.agg #[.int .u8 2, .int .i64 n], .agg #[.int .i64 b, .int .i64 n, .int .i64 k]]) (by simp [results, Try.results38, go_sem, c_x0, c_x1, c_y0, c_y1, c_y2]) rfl ⟨_, _, _, _, _, rfl, ⟨2, n, Or.inl ⟨rfl, HL.out, rfl, rfl⟩, Or.inr (Or.inr ⟨hd, rfl, rfl, rfl, rfl, rfl⟩)⟩, (by refine Below.drew ?_; repeat (first | refine Below.setCell ?_ (by first | (simp; done) | (simp; omega)) _ | exact KB.out))⟩
    · have hd : t % e = o := by simpa using hq
      have K0 := Lib.hid ((((((Kp.start w).add 33 #[.int .i64 e, .int .i64 o, .int .i64 m]).add 56 #[.int .u8 2, .int .i64 n]).add 63 #[.int .i64 b, .int .i64 n, .int .i64 k]).add 56 #[.int .u8 0, .int .i64 0]).add 63 #[.int .i64 0, .int .i64 0, .int .i64 0])
      go_enter Try.func38, Try.ntmps38
      go_wp2_with fail
      refine (ris_ok e o m t _ true hk t0 t1 hq).mono ?_
      rintro v w1 ⟨rfl, hb⟩
      have K1 := Lib.hid (K0.out.on hb)
      clear hb
      have h_y : Has w1 (w.heap.size + 1 + 1 + 1 + 1) 63 #[.int .i64 0, .int .i64 0, .int .i64 0] := K1.out.rest (.head _) (by simp) rfl rfl
      have c_y0 : w1.cell? ⟨w.heap.size + 1 + 1 + 1 + 1, 0, none⟩ = some (.int .i64 0) := h_y.cell 0
      have f_y0 := h_y.free 0
      have c_y1 : w1.cell? ⟨w.heap.size + 1 + 1 + 1 + 1, 1, none⟩ = some (.int .i64 0) := h_y.cell 1
      have f_y1 := h_y.free 1
      have c_y2 : w1.cell? ⟨w.heap.size + 1 + 1 + 1 + 1, 2, none⟩ = some (.int .i64 0) := h_y.cell 2
      have f_y2 := h_y.free 2
      clear h_y
      have h_x : Has w1 (w.heap.size + 1 + 1 + 1) 56 #[.int .u8 0, .int .i64 0] := K1.out.rest (.tail _ (.head _)) (by simp) rfl rfl
      have c_x0 : w1.cell? ⟨w.heap.size + 1 + 1 + 1, 0, none⟩ = some (.int .u8 0) := h_x.cell 0
      have f_x0 := h_x.free 0
      have c_x1 : w1.cell? ⟨w.heap.size + 1 + 1 + 1, 1, none⟩ = some (.int .i64 0) := h_x.cell 1
      have f_x1 := h_x.free 1
      clear h_x
      have h_r : Has w1 (w.heap.size + 1 + 1) 63 #[.int .i64 b, .int .i64 n, .int .i64 k] := K1.out.rest (.tail _ (.tail _ (.head _))) (by simp) rfl rfl
      have c_r0 : w1.cell? ⟨w.heap.size + 1 + 1, 0, none⟩ = some (.int .i64 b) := h_r.cell 0
      have f_r0 := h_r.free 0
      have c_r1 : w1.cell? ⟨w.heap.size + 1 + 1, 1, none⟩ = some (.int .i64 n) := h_r.cell 1
      have f_r1 := h_r.free 1
      have c_r2 : w1.cell? ⟨w.heap.size + 1 + 1, 2, none⟩ = some (.int .i64 k) := h_r.cell 2
      have f_r2 := h_r.free 2
      clear h_r
      have h_s : Has w1 (w.heap.size + 1) 56 #[.int .u8 2, .int .i64 n] := K1.out.rest (.tail _ (.tail _ (.tail _ (.head _)))) (by simp) rfl rfl
      have c_s0 : w1.cell? ⟨w.heap.size + 1, 0, none⟩ = some (.int .u8 2) := h_s.cell 0
      have f_s0 := h_s.free 0
      have c_s1 : w1.cell? ⟨w.heap.size + 1, 1, none⟩ = some (.int .i64 n) := h_s.cell 1
      have f_s1 := h_s.free 1
      clear h_s
      have KB := Lib.hid K1.out.below
      go_wp2
      go_region
      go_wp2
      exact bodyPost_ret (v := .tuple #[.agg #[.int .u8 2, .int .i64 n], .agg #[.int .i64 b, .int .i64 n, .int .i64 (k + 1)]]) (by simp [results, Try.results38, go_sem, c_x0, c_x1, c_y0, c_y1, c_y2]) rfl ⟨_, _, _, _, _, rfl, ⟨2, n, Or.inl ⟨rfl, HL.out, rfl, rfl⟩, Or.inr (Or.inl ⟨hd, by omega, rfl, rfl, rfl, rfl, rfl⟩)⟩, (by refine Below.drew ?_; repeat (first | refine Below.setCell ?_ (by first | (simp; done) | (simp; omega)) _ | exact KB.out))⟩
  · have d1 : ((st == 1) = false) ∨ ((st == 1) = true ∧ (t == n + m) = false) := by
      rcases (show st = 1 ∨ st ≠ 1 by omega) with h | h
      · exact Or.inr ⟨by simp; exact h, by simp; omega⟩
      · exact Or.inl (by simp; exact h)
    rcases d1 with d1 | ⟨d1, d2⟩
    · skip
      rcases hq : (t % e == o) with _ | _
      · have hd : t % e ≠ o := by simpa using hq
        have K0 := Lib.hid ((((((Kp.start w).add 33 #[.int .i64 e, .int .i64 o, .int .i64 m]).add 56 #[.int .u8 st, .int .i64 n]).add 63 #[.int .i64 b, .int .i64 f, .int .i64 k]).add 56 #[.int .u8 0, .int .i64 0]).add 63 #[.int .i64 0, .int .i64 0, .int .i64 0])
        go_enter Try.func38, Try.ntmps38
        go_wp2_with fail
        refine (ris_ok e o m t _ false hk t0 t1 hq).mono ?_
        rintro v w1 ⟨rfl, hb⟩
        have K1 := Lib.hid (K0.out.on hb)
        clear hb
        have h_y : Has w1 (w.heap.size + 1 + 1 + 1 + 1) 63 #[.int .i64 0, .int .i64 0, .int .i64 0] := K1.out.rest (.head _) (by simp) rfl rfl
        have c_y0 : w1.cell? ⟨w.heap.size + 1 + 1 + 1 + 1, 0, none⟩ = some (.int .i64 0) := h_y.cell 0
        have f_y0 := h_y.free 0
        have c_y1 : w1.cell? ⟨w.heap.size + 1 + 1 + 1 + 1, 1, none⟩ = some (.int .i64 0) := h_y.cell 1
        have f_y1 := h_y.free 1
        have c_y2 : w1.cell? ⟨w.heap.size + 1 + 1 + 1 + 1, 2, none⟩ = some (.int .i64 0) := h_y.cell 2
        have f_y2 := h_y.free 2
        clear h_y
        have h_x : Has w1 (w.heap.size + 1 + 1 + 1) 56 #[.int .u8 0, .int .i64 0] := K1.out.rest (.tail _ (.head _)) (by simp) rfl rfl
        have c_x0 : w1.cell? ⟨w.heap.size + 1 + 1 + 1, 0, none⟩ = some (.int .u8 0) := h_x.cell 0
        have f_x0 := h_x.free 0
        have c_x1 : w1.cell? ⟨w.heap.size + 1 + 1 + 1, 1, none⟩ = some (.int .i64 0) := h_x.cell 1
        have f_x1 := h_x.free 1
        clear h_x
        have h_r : Has w1 (w.heap.size + 1 + 1) 63 #[.int .i64 b, .int .i64 f, .int .i64 k] := K1.out.rest (.tail _ (.tail _ (.head _))) (by simp) rfl rfl
        have c_r0 : w1.cell? ⟨w.heap.size + 1 + 1, 0, none⟩ = some (.int .i64 b) := h_r.cell 0
        have f_r0 := h_r.free 0
        have c_r1 : w1.cell? ⟨w.heap.size + 1 + 1, 1, none⟩ = some (.int .i64 f) := h_r.cell 1
        have f_r1 := h_r.free 1
        have c_r2 : w1.cell? ⟨w.heap.size + 1 + 1, 2, none⟩ = some (.int .i64 k) := h_r.cell 2
        have f_r2 := h_r.free 2
        clear h_r
        have h_s : Has w1 (w.heap.size + 1) 56 #[.int .u8 st, .int .i64 n] := K1.out.rest (.tail _ (.tail _ (.tail _ (.head _)))) (by simp) rfl rfl
        have c_s0 : w1.cell? ⟨w.heap.size + 1, 0, none⟩ = some (.int .u8 st) := h_s.cell 0
        have f_s0 := h_s.free 0
        have c_s1 : w1.cell? ⟨w.heap.size + 1, 1, none⟩ = some (.int .i64 n) := h_s.cell 1
        have f_s1 := h_s.free 1
        clear h_s
        have KB := Lib.hid K1.out.below
        go_wp2
        go_region
        go_wp2
        exact bodyPost_ret (v := .tuple #[.agg #[.int .u8 st, .int .i64 n], .agg #[.int .i64 b, .int .i64 f, .int .i64 k]]) (by simp [results, Try.results38, go_sem, c_x0, c_x1, c_y0, c_y1, c_y2]) rfl ⟨_, _, _, _, _, rfl, ⟨st, f, Or.inr ⟨hlate, rfl, rfl⟩, Or.inr (Or.inr ⟨hd, rfl, rfl, rfl, rfl, rfl⟩)⟩, (by refine Below.drew ?_; repeat (first | refine Below.setCell ?_ (by first | (simp; done) | (simp; omega)) _ | exact KB.out))⟩
      · have hd : t % e = o := by simpa using hq
        rcases (show st = 0 ∨ st ≠ 0 by omega) with hs0 | hs0
        · have d3 : (st == 0) = true := by simp; exact hs0
          have HS0 := Lib.hid hs0
          clear hs0
          have K0 := Lib.hid ((((((Kp.start w).add 33 #[.int .i64 e, .int .i64 o, .int .i64 m]).add 56 #[.int .u8 st, .int .i64 n]).add 63 #[.int .i64 b, .int .i64 f, .int .i64 k]).add 56 #[.int .u8 0, .int .i64 0]).add 63 #[.int .i64 0, .int .i64 0, .int .i64 0])
          go_enter Try.func38, Try.ntmps38
          go_wp2_with fail
          refine (ris_ok e o m t _ true hk t0 t1 hq).mono ?_
          rintro v w1 ⟨rfl, hb⟩
          have K1 := Lib.hid (K0.out.on hb)
          clear hb
          have h_y : Has w1 (w.heap.size + 1 + 1 + 1 + 1) 63 #[.int .i64 0, .int .i64 0, .int .i64 0] := K1.out.rest (.head _) (by simp) rfl rfl
          have c_y0 : w1.cell? ⟨w.heap.size + 1 + 1 + 1 + 1, 0, none⟩ = some (.int .i64 0) := h_y.cell 0
          have f_y0 := h_y.free 0
          have c_y1 : w1.cell? ⟨w.heap.size + 1 + 1 + 1 + 1, 1, none⟩ = some (.int .i64 0) := h_y.cell 1
          have f_y1 := h_y.free 1
          have c_y2 : w1.cell? ⟨w.heap.size + 1 + 1 + 1 + 1, 2, none⟩ = some (.int .i64 0) := h_y.cell 2
          have f_y2 := h_y.free 2
          clear h_y
          have h_x : Has w1 (w.heap.size + 1 + 1 + 1) 56 #[.int .u8 0, .int .i64 0] := K1.out.rest (.tail _ (.head _)) (by simp) rfl rfl
          have c_x0 : w1.cell? ⟨w.heap.size + 1 + 1 + 1, 0, none⟩ = some (.int .u8 0) := h_x.cell 0
          have f_x0 := h_x.free 0
          have c_x1 : w1.cell? ⟨w.heap.size + 1 + 1 + 1, 1, none⟩ = some (.int .i64 0) := h_x.cell 1
          have f_x1 := h_x.free 1
          clear h_x
          have h_r : Has w1 (w.heap.size + 1 + 1) 63 #[.int .i64 b, .int .i64 f, .int .i64 k] := K1.out.rest (.tail _ (.tail _ (.head _))) (by simp) rfl rfl
          have c_r0 : w1.cell? ⟨w.heap.size + 1 + 1, 0, none⟩ = some (.int .i64 b) := h_r.cell 0
          have f_r0 := h_r.free 0
          have c_r1 : w1.cell? ⟨w.heap.size + 1 + 1, 1, none⟩ = some (.int .i64 f) := h_r.cell 1
          have f_r1 := h_r.free 1
          have c_r2 : w1.cell? ⟨w.heap.size + 1 + 1, 2, none⟩ = some (.int .i64 k) := h_r.cell 2
          have f_r2 := h_r.free 2
          clear h_r
          have h_s : Has w1 (w.heap.size + 1) 56 #[.int .u8 st, .int .i64 n] := K1.out.rest (.tail _ (.tail _ (.tail _ (.head _)))) (by simp) rfl rfl
          have c_s0 : w1.cell? ⟨w.heap.size + 1, 0, none⟩ = some (.int .u8 st) := h_s.cell 0
          have f_s0 := h_s.free 0
          have c_s1 : w1.cell? ⟨w.heap.size + 1, 1, none⟩ = some (.int .i64 n) := h_s.cell 1
          have f_s1 := h_s.free 1
          clear h_s
          have KB := Lib.hid K1.out.below
          go_wp2
          go_region
          go_wp2
          exact bodyPost_ret (v := .tuple #[.agg #[.int .u8 1, .int .i64 t], .agg #[.int .i64 t, .int .i64 f, .int .i64 k]]) (by simp [results, Try.results38, go_sem, c_x0, c_x1, c_y0, c_y1, c_y2]) rfl ⟨_, _, _, _, _, rfl, ⟨st, f, Or.inr ⟨hlate, rfl, rfl⟩, Or.inl ⟨hd, HS0.out, rfl, rfl, rfl, rfl, rfl⟩⟩, (by refine Below.drew ?_; repeat (first | refine Below.setCell ?_ (by first | (simp; done) | (simp; omega)) _ | exact KB.out))⟩
        · have d3 : (st == 0) = false := by simp; exact hs0
          have K0 := Lib.hid ((((((Kp.start w).add 33 #[.int .i64 e, .int .i64 o, .int .i64 m]).add 56 #[.int .u8 st, .int .i64 n]).add 63 #[.int .i64 b, .int .i64 f, .int .i64 k]).add 56 #[.int .u8 0, .int .i64 0]).add 63 #[.int .i64 0, .int .i64 0, .int .i64 0])
          go_enter Try.func38, Try.ntmps38
          go_wp2_with fail
          refine (ris_ok e o m t _ true hk t0 t1 hq).mono ?_
          rintro v w1 ⟨rfl, hb⟩
          have K1 := Lib.hid (K0.out.on hb)
          clear hb
          have h_y : Has w1 (w.heap.size + 1 + 1 + 1 + 1) 63 #[.int .i64 0, .int .i64 0, .int .i64 0] := K1.out.rest (.head _) (by simp) rfl rfl
          have c_y0 : w1.cell? ⟨w.heap.size + 1 + 1 + 1 + 1, 0, none⟩ = some (.int .i64 0) := h_y.cell 0
          have f_y0 := h_y.free 0
          have c_y1 : w1.cell? ⟨w.heap.size + 1 + 1 + 1 + 1, 1, none⟩ = some (.int .i64 0) := h_y.cell 1
          have f_y1 := h_y.free 1
          have c_y2 : w1.cell? ⟨w.heap.size + 1 + 1 + 1 + 1, 2, none⟩ = some (.int .i64 0) := h_y.cell 2
          have f_y2 := h_y.free 2
          clear h_y
          have h_x : Has w1 (w.heap.size + 1 + 1 + 1) 56 #[.int .u8 0, .int .i64 0] := K1.out.rest (.tail _ (.head _)) (by simp) rfl rfl
          have c_x0 : w1.cell? ⟨w.heap.size + 1 + 1 + 1, 0, none⟩ = some (.int .u8 0) := h_x.cell 0
          have f_x0 := h_x.free 0
          have c_x1 : w1.cell? ⟨w.heap.size + 1 + 1 + 1, 1, none⟩ = some (.int .i64 0) := h_x.cell 1
          have f_x1 := h_x.free 1
          clear h_x
          have h_r : Has w1 (w.heap.size + 1 + 1) 63 #[.int .i64 b, .int .i64 f, .int .i64 k] := K1.out.rest (.tail _ (.tail _ (.head _))) (by simp) rfl rfl
          have c_r0 : w1.cell? ⟨w.heap.size + 1 + 1, 0, none⟩ = some (.int .i64 b) := h_r.cell 0
          have f_r0 := h_r.free 0
          have c_r1 : w1.cell? ⟨w.heap.size + 1 + 1, 1, none⟩ = some (.int .i64 f) := h_r.cell 1
          have f_r1 := h_r.free 1
          have c_r2 : w1.cell? ⟨w.heap.size + 1 + 1, 2, none⟩ = some (.int .i64 k) := h_r.cell 2
          have f_r2 := h_r.free 2
          clear h_r
          have h_s : Has w1 (w.heap.size + 1) 56 #[.int .u8 st, .int .i64 n] := K1.out.rest (.tail _ (.tail _ (.tail _ (.head _)))) (by simp) rfl rfl
          have c_s0 : w1.cell? ⟨w.heap.size + 1, 0, none⟩ = some (.int .u8 st) := h_s.cell 0
          have f_s0 := h_s.free 0
          have c_s1 : w1.cell? ⟨w.heap.size + 1, 1, none⟩ = some (.int .i64 n) := h_s.cell 1
          have f_s1 := h_s.free 1
          clear h_s
          have KB := Lib.hid K1.out.below
          go_wp2
          go_region
          go_wp2
          exact bodyPost_ret (v := .tuple #[.agg #[.int .u8 st, .int .i64 n], .agg #[.int .i64 b, .int .i64 f, .int .i64 (k + 1)]]) (by simp [results, Try.results38, go_sem, c_x0, c_x1, c_y0, c_y1, c_y2]) rfl ⟨_, _, _, _, _, rfl, ⟨st, f, Or.inr ⟨hlate, rfl, rfl⟩, Or.inr (Or.inl ⟨hd, hs0, rfl, rfl, rfl, rfl, rfl⟩)⟩, (by refine Below.drew ?_; repeat (first | refine Below.setCell ?_ (by first | (simp; done) | (simp; omega)) _ | exact KB.out))⟩
    · skip
      rcases hq : (t % e == o) with _ | _
      · have hd : t % e ≠ o := by simpa using hq
        have K0 := Lib.hid ((((((Kp.start w).add 33 #[.int .i64 e, .int .i64 o, .int .i64 m]).add 56 #[.int .u8 st, .int .i64 n]).add 63 #[.int .i64 b, .int .i64 f, .int .i64 k]).add 56 #[.int .u8 0, .int .i64 0]).add 63 #[.int .i64 0, .int .i64 0, .int .i64 0])
        go_enter Try.func38, Try.ntmps38
        go_wp2_with fail
        refine (ris_ok e o m t _ false hk t0 t1 hq).mono ?_
        rintro v w1 ⟨rfl, hb⟩
        have K1 := Lib.hid (K0.out.on hb)
        clear hb
        have h_y : Has w1 (w.heap.size + 1 + 1 + 1 + 1) 63 #[.int .i64 0, .int .i64 0, .int .i64 0] := K1.out.rest (.head _) (by simp) rfl rfl
        have c_y0 : w1.cell? ⟨w.heap.size + 1 + 1 + 1 + 1, 0, none⟩ = some (.int .i64 0) := h_y.cell 0
        have f_y0 := h_y.free 0
        have c_y1 : w1.cell? ⟨w.heap.size + 1 + 1 + 1 + 1, 1, none⟩ = some (.int .i64 0) := h_y.cell 1
        have f_y1 := h_y.free 1
        have c_y2 : w1.cell? ⟨w.heap.size + 1 + 1 + 1 + 1, 2, none⟩ = some (.int .i64 0) := h_y.cell 2
        have f_y2 := h_y.free 2
        clear h_y
        have h_x : Has w1 (w.heap.size + 1 + 1 + 1) 56 #[.int .u8 0, .int .i64 0] := K1.out.rest (.tail _ (.head _)) (by simp) rfl rfl
        have c_x0 : w1.cell? ⟨w.heap.size + 1 + 1 + 1, 0, none⟩ = some (.int .u8 0) := h_x.cell 0
        have f_x0 := h_x.free 0
        have c_x1 : w1.cell? ⟨w.heap.size + 1 + 1 + 1, 1, none⟩ = some (.int .i64 0) := h_x.cell 1
        have f_x1 := h_x.free 1
        clear h_x
        have h_r : Has w1 (w.heap.size + 1 + 1) 63 #[.int .i64 b, .int .i64 f, .int .i64 k] := K1.out.rest (.tail _ (.tail _ (.head _))) (by simp) rfl rfl
        have c_r0 : w1.cell? ⟨w.heap.size + 1 + 1, 0, none⟩ = some (.int .i64 b) := h_r.cell 0
        have f_r0 := h_r.free 0
        have c_r1 : w1.cell? ⟨w.heap.size + 1 + 1, 1, none⟩ = some (.int .i64 f) := h_r.cell 1
        have f_r1 := h_r.free 1
        have c_r2 : w1.cell? ⟨w.heap.size + 1 + 1, 2, none⟩ = some (.int .i64 k) := h_r.cell 2
        have f_r2 := h_r.free 2
        clear h_r
        have h_s : Has w1 (w.heap.size + 1) 56 #[.int .u8 st, .int .i64 n] := K1.out.rest (.tail _ (.tail _ (.tail _ (.head _)))) (by simp) rfl rfl
        have c_s0 : w1.cell? ⟨w.heap.size + 1, 0, none⟩ = some (.int .u8 st) := h_s.cell 0
        have f_s0 := h_s.free 0
        have c_s1 : w1.cell? ⟨w.heap.size + 1, 1, none⟩ = some (.int .i64 n) := h_s.cell 1
        have f_s1 := h_s.free 1
        clear h_s
        have KB := Lib.hid K1.out.below
        go_wp2
        go_region
        go_wp2
        exact bodyPost_ret (v := .tuple #[.agg #[.int .u8 st, .int .i64 n], .agg #[.int .i64 b, .int .i64 f, .int .i64 k]]) (by simp [results, Try.results38, go_sem, c_x0, c_x1, c_y0, c_y1, c_y2]) rfl ⟨_, _, _, _, _, rfl, ⟨st, f, Or.inr ⟨hlate, rfl, rfl⟩, Or.inr (Or.inr ⟨hd, rfl, rfl, rfl, rfl, rfl⟩)⟩, (by refine Below.drew ?_; repeat (first | refine Below.setCell ?_ (by first | (simp; done) | (simp; omega)) _ | exact KB.out))⟩
      · have hd : t % e = o := by simpa using hq
        rcases (show st = 0 ∨ st ≠ 0 by omega) with hs0 | hs0
        · have d3 : (st == 0) = true := by simp; exact hs0
          have HS0 := Lib.hid hs0
          clear hs0
          have K0 := Lib.hid ((((((Kp.start w).add 33 #[.int .i64 e, .int .i64 o, .int .i64 m]).add 56 #[.int .u8 st, .int .i64 n]).add 63 #[.int .i64 b, .int .i64 f, .int .i64 k]).add 56 #[.int .u8 0, .int .i64 0]).add 63 #[.int .i64 0, .int .i64 0, .int .i64 0])
          go_enter Try.func38, Try.ntmps38
          go_wp2_with fail
          refine (ris_ok e o m t _ true hk t0 t1 hq).mono ?_
          rintro v w1 ⟨rfl, hb⟩
          have K1 := Lib.hid (K0.out.on hb)
          clear hb
          have h_y : Has w1 (w.heap.size + 1 + 1 + 1 + 1) 63 #[.int .i64 0, .int .i64 0, .int .i64 0] := K1.out.rest (.head _) (by simp) rfl rfl
          have c_y0 : w1.cell? ⟨w.heap.size + 1 + 1 + 1 + 1, 0, none⟩ = some (.int .i64 0) := h_y.cell 0
          have f_y0 := h_y.free 0
          have c_y1 : w1.cell? ⟨w.heap.size + 1 + 1 + 1 + 1, 1, none⟩ = some (.int .i64 0) := h_y.cell 1
          have f_y1 := h_y.free 1
          have c_y2 : w1.cell? ⟨w.heap.size + 1 + 1 + 1 + 1, 2, none⟩ = some (.int .i64 0) := h_y.cell 2
          have f_y2 := h_y.free 2
          clear h_y
          have h_x : Has w1 (w.heap.size + 1 + 1 + 1) 56 #[.int .u8 0, .int .i64 0] := K1.out.rest (.tail _ (.head _)) (by simp) rfl rfl
          have c_x0 : w1.cell? ⟨w.heap.size + 1 + 1 + 1, 0, none⟩ = some (.int .u8 0) := h_x.cell 0
          have f_x0 := h_x.free 0
          have c_x1 : w1.cell? ⟨w.heap.size + 1 + 1 + 1, 1, none⟩ = some (.int .i64 0) := h_x.cell 1
          have f_x1 := h_x.free 1
          clear h_x
          have h_r : Has w1 (w.heap.size + 1 + 1) 63 #[.int .i64 b, .int .i64 f, .int .i64 k] := K1.out.rest (.tail _ (.tail _ (.head _))) (by simp) rfl rfl
          have c_r0 : w1.cell? ⟨w.heap.size + 1 + 1, 0, none⟩ = some (.int .i64 b) := h_r.cell 0
          have f_r0 := h_r.free 0
          have c_r1 : w1.cell? ⟨w.heap.size + 1 + 1, 1, none⟩ = some (.int .i64 f) := h_r.cell 1
          have f_r1 := h_r.free 1
          have c_r2 : w1.cell? ⟨w.heap.size + 1 + 1, 2, none⟩ = some (.int .i64 k) := h_r.cell 2
          have f_r2 := h_r.free 2
          clear h_r
          have h_s : Has w1 (w.heap.size + 1) 56 #[.int .u8 st, .int .i64 n] := K1.out.rest (.tail _ (.tail _ (.tail _ (.head _)))) (by simp) rfl rfl
          have c_s0 : w1.cell? ⟨w.heap.size + 1, 0, none⟩ = some (.int .u8 st) := h_s.cell 0
          have f_s0 := h_s.free 0
          have c_s1 : w1.cell? ⟨w.heap.size + 1, 1, none⟩ = some (.int .i64 n) := h_s.cell 1
          have f_s1 := h_s.free 1
          clear h_s
          have KB := Lib.hid K1.out.below
          go_wp2
          go_region
          go_wp2
          exact bodyPost_ret (v := .tuple #[.agg #[.int .u8 1, .int .i64 t], .agg #[.int .i64 t, .int .i64 f, .int .i64 k]]) (by simp [results, Try.results38, go_sem, c_x0, c_x1, c_y0, c_y1, c_y2]) rfl ⟨_, _, _, _, _, rfl, ⟨st, f, Or.inr ⟨hlate, rfl, rfl⟩, Or.inl ⟨hd, HS0.out, rfl, rfl, rfl, rfl, rfl⟩⟩, (by refine Below.drew ?_; repeat (first | refine Below.setCell ?_ (by first | (simp; done) | (simp; omega)) _ | exact KB.out))⟩
        · have d3 : (st == 0) = false := by simp; exact hs0
          have K0 := Lib.hid ((((((Kp.start w).add 33 #[.int .i64 e, .int .i64 o, .int .i64 m]).add 56 #[.int .u8 st, .int .i64 n]).add 63 #[.int .i64 b, .int .i64 f, .int .i64 k]).add 56 #[.int .u8 0, .int .i64 0]).add 63 #[.int .i64 0, .int .i64 0, .int .i64 0])
          go_enter Try.func38, Try.ntmps38
          go_wp2_with fail
          refine (ris_ok e o m t _ true hk t0 t1 hq).mono ?_
          rintro v w1 ⟨rfl, hb⟩
          have K1 := Lib.hid (K0.out.on hb)
          clear hb
          have h_y : Has w1 (w.heap.size + 1 + 1 + 1 + 1) 63 #[.int .i64 0, .int .i64 0, .int .i64 0] := K1.out.rest (.head _) (by simp) rfl rfl
          have c_y0 : w1.cell? ⟨w.heap.size + 1 + 1 + 1 + 1, 0, none⟩ = some (.int .i64 0) := h_y.cell 0
          have f_y0 := h_y.free 0
          have c_y1 : w1.cell? ⟨w.heap.size + 1 + 1 + 1 + 1, 1, none⟩ = some (.int .i64 0) := h_y.cell 1
          have f_y1 := h_y.free 1
          have c_y2 : w1.cell? ⟨w.heap.size + 1 + 1 + 1 + 1, 2, none⟩ = some (.int .i64 0) := h_y.cell 2
          have f_y2 := h_y.free 2
          clear h_y
          have h_x : Has w1 (w.heap.size + 1 + 1 + 1) 56 #[.int .u8 0, .int .i64 0] := K1.out.rest (.tail _ (.head _)) (by simp) rfl rfl
          have c_x0 : w1.cell? ⟨w.heap.size + 1 + 1 + 1, 0, none⟩ = some (.int .u8 0) := h_x.cell 0
          have f_x0 := h_x.free 0
          have c_x1 : w1.cell? ⟨w.heap.size + 1 + 1 + 1, 1, none⟩ = some (.int .i64 0) := h_x.cell 1
          have f_x1 := h_x.free 1
          clear h_x
          have h_r : Has w1 (w.heap.size + 1 + 1) 63 #[.int .i64 b, .int .i64 f, .int .i64 k] := K1.out.rest (.tail _ (.tail _ (.head _))) (by simp) rfl rfl
          have c_r0 : w1.cell? ⟨w.heap.size + 1 + 1, 0, none⟩ = some (.int .i64 b) := h_r.cell 0
          have f_r0 := h_r.free 0
          have c_r1 : w1.cell? ⟨w.heap.size + 1 + 1, 1, none⟩ = some (.int .i64 f) := h_r.cell 1
          have f_r1 := h_r.free 1
          have c_r2 : w1.cell? ⟨w.heap.size + 1 + 1, 2, none⟩ = some (.int .i64 k) := h_r.cell 2
          have f_r2 := h_r.free 2
          clear h_r
          have h_s : Has w1 (w.heap.size + 1) 56 #[.int .u8 st, .int .i64 n] := K1.out.rest (.tail _ (.tail _ (.tail _ (.head _)))) (by simp) rfl rfl
          have c_s0 : w1.cell? ⟨w.heap.size + 1, 0, none⟩ = some (.int .u8 st) := h_s.cell 0
          have f_s0 := h_s.free 0
          have c_s1 : w1.cell? ⟨w.heap.size + 1, 1, none⟩ = some (.int .i64 n) := h_s.cell 1
          have f_s1 := h_s.free 1
          clear h_s
          have KB := Lib.hid K1.out.below
          go_wp2
          go_region
          go_wp2
          exact bodyPost_ret (v := .tuple #[.agg #[.int .u8 st, .int .i64 n], .agg #[.int .i64 b, .int .i64 f, .int .i64 (k + 1)]]) (by simp [results, Try.results38, go_sem, c_x0, c_x1, c_y0, c_y1, c_y2]) rfl ⟨_, _, _, _, _, rfl, ⟨st, f, Or.inr ⟨hlate, rfl, rfl⟩, Or.inr (Or.inl ⟨hd, hs0, rfl, rfl, rfl, rfl, rfl⟩)⟩, (by refine Below.drew ?_; repeat (first | refine Below.setCell ?_ (by first | (simp; done) | (simp; omega)) _ | exact KB.out))⟩
end Go.Proofs.Ytpgdogcgdlijeaa
