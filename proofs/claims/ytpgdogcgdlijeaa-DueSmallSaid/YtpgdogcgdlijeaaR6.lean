/- The reference's Advance, walked. Conditions: a right plan, ticks in order, a phase that fits. -/
import Derived.Test.YtpgdogcgdlijeaaR3
import Derived.Test.YtpgdogcgdlijeaaRPlain2
namespace Go.Proofs.Ytpgdogcgdlijeaa
open Go.RowKit

/-- The boxes of a call of the reference's Advance that began in world w. -/
structure Lo (w : World) (e o m st n b f k : Int) (W : World) : Prop where
  below : Below w.heap.size w W
  p : Has W w.heap.size 33 (pcells e o m)
  s : Has W (w.heap.size + 1) 56 (scells st n)
  x : Has W (w.heap.size + 1 + 1) 56 (scells 0 0)
  y : Has W (w.heap.size + 1 + 1 + 1) 63 (rcells 0 0 0)
  r : Has W (w.heap.size + 1 + 1 + 1 + 1) 63 (rcells b f k)
section
variable {w W W' : World} {e o m st n b f k : Int}
theorem Lo.on (h : Lo w e o m st n b f k W) (q : Below W.heap.size W W') : Lo w e o m st n b f k W' :=
  ⟨h.below.trans (q.mono h.below.size), h.p.below q (Has.lt h.p), h.s.below q (Has.lt h.s), h.x.below q (Has.lt h.x), h.y.below q (Has.lt h.y), h.r.below q (Has.lt h.r)⟩
theorem Lo.phase (h : Lo w e o m st n b f k W) (i : Nat) (u : Value) (st' n' : Int) (hc : (scells st n).setIfInBounds i u = scells st' n') : Lo w e o m st' n' b f k (W.setCell ⟨w.heap.size + 1, i, none⟩ u) :=
  ⟨h.below.setCell (by simp) _, h.p.there (p := ⟨w.heap.size + 1, i, none⟩) (by first | (simp; done) | (simp; omega)) _, hc ▸ h.s.here i u, h.x.there (p := ⟨w.heap.size + 1, i, none⟩) (by first | (simp; done) | (simp; omega)) _,
   h.y.there (p := ⟨w.heap.size + 1, i, none⟩) (by first | (simp; done) | (simp; omega)) _, h.r.there (p := ⟨w.heap.size + 1, i, none⟩) (by first | (simp; done) | (simp; omega)) _⟩
theorem Lo.report (h : Lo w e o m st n b f k W) (i : Nat) (u : Value) (b' f' k' : Int) (hc : (rcells b f k).setIfInBounds i u = rcells b' f' k') : Lo w e o m st n b' f' k' (W.setCell ⟨w.heap.size + 1 + 1 + 1 + 1, i, none⟩ u) :=
  ⟨h.below.setCell (by simp; omega) _, h.p.there (p := ⟨w.heap.size + 1 + 1 + 1 + 1, i, none⟩) (by first | (simp; done) | (simp; omega)) _, h.s.there (p := ⟨w.heap.size + 1 + 1 + 1 + 1, i, none⟩) (by first | (simp; done) | (simp; omega)) _,
   h.x.there (p := ⟨w.heap.size + 1 + 1 + 1 + 1, i, none⟩) (by first | (simp; done) | (simp; omega)) _, h.y.there (p := ⟨w.heap.size + 1 + 1 + 1 + 1, i, none⟩) (by first | (simp; done) | (simp; omega)) _, hc ▸ h.r.here i u⟩
theorem Lo.start (w : World) (e o m st n : Int) :
    Lo w e o m st n (-1) (-1) 0 (((((w.alloc (.cells (pcells e o m) 33)).alloc (.cells (scells st n) 56)).alloc (.cells (scells 0 0) 56)).alloc (.cells (rcells 0 0 0) 63)).alloc (.cells (rcells (-1) (-1) 0) 63)) := by
  have s1 := size_of w (.cells (pcells e o m) 33)
  have s2 := size_of (w.alloc (.cells (pcells e o m) 33)) (.cells (scells st n) 56)
  have s3 := size_of ((w.alloc (.cells (pcells e o m) 33)).alloc (.cells (scells st n) 56)) (.cells (scells 0 0) 56)
  have s4 := size_of (((w.alloc (.cells (pcells e o m) 33)).alloc (.cells (scells st n) 56)).alloc (.cells (scells 0 0) 56)) (.cells (rcells 0 0 0) 63)
  refine ⟨?_, ((((Has.made _ _ _).alloc _).alloc _).alloc _).alloc _, (((made_at _ _ (by omega)).alloc _).alloc _).alloc _, ((made_at _ _ (by omega)).alloc _).alloc _, (made_at _ _ (by omega)).alloc _, made_at _ _ (by omega)⟩
  exact (((((Below.refl _ _).alloc (Nat.le_refl _) _).alloc (by omega) _).alloc (by omega) _).alloc (by omega) _).alloc (by omega) _
end

set_option maxRecDepth 100000 in
set_option maxHeartbeats 8000000 in
theorem radv_ok (e o m a b st n : Int) (w : World) (hk : Du.Ok e o m) (a0 : 0 ≤ a) (hab : a ≤ b) (b1 : b ≤ 281474976710656) (hf : Du.fitsP e o m st n a) :
    Calls Try.prog 32 #[.agg #[.int .i64 e, .int .i64 o, .int .i64 m], .agg #[.int .u8 st, .int .i64 n], .int .i64 a, .int .i64 b] w fun v w' => ∃ st' n' r1 r2 r3 : Int,
      v = .returned (.tuple #[.agg #[.int .u8 st', .int .i64 n'], .agg #[.int .i64 r1, .int .i64 r2, .int .i64 r3]]) ∧ Du.Adv e o m st n a b st' n' r1 r2 r3 ∧ Below w.heap.size w w' := by
  have HL := Lib.hid (Lo.start w e o m st n)
  have HF := Lib.hid hf
  have g0 : IntKind.i64.wrap (a + 1) = a + 1 := IntWalk.i64_in _ (by omega)
  clear hf
  go_enter Try.func32, Try.ntmps32
  go_wp2
  go_loopw [11] (fun i wr => ∃ x st' n' r1 r2 r3 : Int, a ≤ x ∧ x ≤ b ∧ i = .int .i64 (x + 1) ∧ Du.Adv e o m st n a x st' n' r1 r2 r3 ∧ Lo w e o m st' n' r1 r2 r3 wr) (fun i _ => (b + 1 - intOf i).toNat)
  case atStart => exact ⟨a, st, n, -1, -1, 0, Int.le_refl _, hab, rfl, Du.adv_start HF.out, HL.out⟩
  case round =>
    obtain ⟨x, st', n', r1, r2, r3, x0, x1, rfl, hadv, hlo⟩ := hrel
    have hbd := Du.adv_bounds hk a0 x0 (by omega) HF.out hadv
    have HA := Lib.hid hadv
    have HLO := Lib.hid hlo
    clear hadv hlo
    have p0 : wr.cell? ⟨w.heap.size, 0, none⟩ = some (.int .i64 e) := HLO.out.p.cell 0
    have p1 : wr.cell? ⟨w.heap.size, 1, none⟩ = some (.int .i64 o) := HLO.out.p.cell 1
    have p2 : wr.cell? ⟨w.heap.size, 2, none⟩ = some (.int .i64 m) := HLO.out.p.cell 2
    have s0 : wr.cell? ⟨w.heap.size + 1, 0, none⟩ = some (.int .u8 st') := HLO.out.s.cell 0
    have s1 : wr.cell? ⟨w.heap.size + 1, 1, none⟩ = some (.int .i64 n') := HLO.out.s.cell 1
    have q0 : wr.cell? ⟨w.heap.size + 1 + 1 + 1 + 1, 0, none⟩ = some (.int .i64 r1) := HLO.out.r.cell 0
    have q1 : wr.cell? ⟨w.heap.size + 1 + 1 + 1 + 1, 1, none⟩ = some (.int .i64 r2) := HLO.out.r.cell 1
    have q2 : wr.cell? ⟨w.heap.size + 1 + 1 + 1 + 1, 2, none⟩ = some (.int .i64 r3) := HLO.out.r.cell 2
    rcases (show x + 1 ≤ b ∨ x = b by omega) with hx | hx
    · have d1 : decide (x + 1 ≤ b) = true := decide_eq_true hx
      have g1 : IntKind.i64.wrap (x + 1 + 1) = x + 1 + 1 := IntWalk.i64_in _ (by omega)
      go_wp2_with fail
      refine (pass_any e o m st' n' r1 r2 r3 (x + 1) _ hk (by omega) (by omega) hbd.1 hbd.2.1 hbd.2.2.1 hbd.2.2.2).mono ?_
      rintro v w2 ⟨u1, u2, u3, u4, u5, rfl, hps, hb2⟩
      have HPS := Lib.hid hps
      have H2 := Lib.hid (HLO.out.on hb2)
      clear hb2 hps p0 p1 p2 s0 s1 q0 q1 q2
      have s0 : w2.cell? ⟨w.heap.size + 1, 0, none⟩ = some (.int .u8 st') := H2.out.s.cell 0
      have s1 : w2.cell? ⟨w.heap.size + 1, 1, none⟩ = some (.int .i64 n') := H2.out.s.cell 1
      have q0 : w2.cell? ⟨w.heap.size + 1 + 1 + 1 + 1, 0, none⟩ = some (.int .i64 r1) := H2.out.r.cell 0
      have q1 : w2.cell? ⟨w.heap.size + 1 + 1 + 1 + 1, 1, none⟩ = some (.int .i64 r2) := H2.out.r.cell 1
      have q2 : w2.cell? ⟨w.heap.size + 1 + 1 + 1 + 1, 2, none⟩ = some (.int .i64 r3) := H2.out.r.cell 2
      have v0 := H2.out.s.free 0
      have v1 := H2.out.s.free 1
      have z0 := H2.out.r.free 0
      have z1 := H2.out.r.free 1
      have z2 := H2.out.r.free 2
      go_wp2
      go_roundw
      case rel => exact ⟨x + 1, u1, u2, u3, u4, u5, by omega, by omega, rfl, Du.pass_step hk a0 x0 HF.out HA.out HPS.out, ((((H2.out.phase 0 _ u1 n' rfl).phase 1 _ u1 u2 rfl).report 0 _ u3 r2 r3 rfl).report 1 _ u3 u4 r3 rfl).report 2 _ u3 u4 u5 rfl⟩
      case measure => simp [intOf]; omega
    · subst hx
      have d1 : decide (x + 1 ≤ x) = false := decide_eq_false (by omega)
      have x0' : wr.cell? ⟨w.heap.size + 1 + 1, 0, none⟩ = some (.int .u8 0) := HLO.out.x.cell 0
      have x1' : wr.cell? ⟨w.heap.size + 1 + 1, 1, none⟩ = some (.int .i64 0) := HLO.out.x.cell 1
      have y0 : wr.cell? ⟨w.heap.size + 1 + 1 + 1, 0, none⟩ = some (.int .i64 0) := HLO.out.y.cell 0
      have y1 : wr.cell? ⟨w.heap.size + 1 + 1 + 1, 1, none⟩ = some (.int .i64 0) := HLO.out.y.cell 1
      have y2 : wr.cell? ⟨w.heap.size + 1 + 1 + 1, 2, none⟩ = some (.int .i64 0) := HLO.out.y.cell 2
      have v0 := HLO.out.x.free 0
      have v1 := HLO.out.x.free 1
      have z0 := HLO.out.y.free 0
      have z1 := HLO.out.y.free 1
      have z2 := HLO.out.y.free 2
      go_wp2
      go_region
      go_wp2
      exact bodyPost_ret (v := .tuple #[.agg #[.int .u8 st', .int .i64 n'], .agg #[.int .i64 r1, .int .i64 r2, .int .i64 r3]]) (by simp [results, Try.results32, go_sem, x0', x1', y0, y1, y2]) rfl
        ⟨_, _, _, _, _, rfl, HA.out, (by repeat (first | exact HLO.out.below | refine Below.drew ?_ | refine Below.setCell ?_ (by first | (simp; done) | (simp; omega)) _))⟩
end Go.Proofs.Ytpgdogcgdlijeaa
