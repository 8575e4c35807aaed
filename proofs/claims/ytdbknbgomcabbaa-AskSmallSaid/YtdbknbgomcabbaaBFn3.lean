/- The reference's Move, walked. Conditions: the reference's state in memory, numbers in bounds. -/
import Derived.Test.YtdbknbgomcabbaaBFn2
import Derived.Deep.RegionHeld3
namespace Go.Proofs.Ytdbknbgomcabbaa
open Go.RowKit

section
variable {base : Nat} {s : Ak.St} {rs : List Ak.Req} {w : World} {A : Option Addr} {c m : Nat} {N : Int} {hv : Value}

/-- The boxes at a call's begin: the state, and the result. -/
structure Bz (w : World) (s : Ak.St) (hv : Value) (clk sk : Int) (W : World) : Prop where
  p : Has W w.heap.size 61 #[.int .i64 s.start, .int .i64 s.width, .int .i64 clk, .bool s.stopped, hv, .int .i64 sk, .int .i64 s.late]
  r : Has W (w.heap.size + 1) 61 #[.int .i64 0, .int .i64 0, .int .i64 0, .bool false, .slice none 0 0, .int .i64 0, .int .i64 0]
  below : Below w.heap.size w W
theorem Bz.start (w : World) (s : Ak.St) (hv : Value) : Bz w s hv s.clock s.skipped ((w.alloc (.cells #[.int .i64 s.start, .int .i64 s.width, .int .i64 s.clock, .bool s.stopped, hv, .int .i64 s.skipped, .int .i64 s.late] 61)).alloc (.cells #[.int .i64 0, .int .i64 0, .int .i64 0, .bool false, .slice none 0 0, .int .i64 0, .int .i64 0] 61)) :=
  ⟨(Has.made _ _ _).alloc _, bmade_at _ _ (by simp), ((Below.refl _ _).alloc (Nat.le_refl _) _).alloc (by simp) _⟩
theorem Bz.on {W W' : World} {clk sk : Int} (h : Bz w s hv clk sk W) (k : Below W.heap.size W W') : Bz w s hv clk sk W' := ⟨h.p.below k (Has.lt h.p), h.r.below k (Has.lt h.r), h.below.trans (k.mono h.below.size)⟩
theorem Bz.drew {W : World} {clk sk : Int} (h : Bz w s hv clk sk W) : Bz w s hv clk sk W.drew := ⟨h.p.drew, h.r.drew, h.below.drew⟩
theorem Bz.clock {W : World} {clk sk : Int} (h : Bz w s hv clk sk W) (now : Int) : Bz w s hv now sk (W.setCell ⟨w.heap.size, 2, none⟩ (.int .i64 now)) :=
  ⟨h.p.here 2 _, h.r.there (by simp) _, below_set h.below _ _ _ (Nat.le_refl _)⟩
theorem Bz.skip {W : World} {clk sk : Int} (h : Bz w s hv clk sk W) (k : Int) : Bz w s hv clk k (W.setCell ⟨w.heap.size, 5, none⟩ (.int .i64 k)) :=
  ⟨h.p.here 5 _, h.r.there (by simp) _, below_set h.below _ _ _ (Nat.le_refl _)⟩
theorem Bz.slice {W : World} {clk sk : Int} (h : Bz w s hv clk sk W) (hv' : Value) : Bz w s hv' clk sk (W.setCell ⟨w.heap.size, 4, none⟩ hv') :=
  ⟨h.p.here 4 _, h.r.there (by simp) _, below_set h.below _ _ _ (Nat.le_refl _)⟩
theorem Bz.whole {W : World} {clk sk : Int} (h : Bz w s hv clk sk W) (hv' : Value) : Bz w s hv' clk sk (set7 W w.heap.size (.int .i64 s.start) (.int .i64 s.width) (.int .i64 clk) (.bool s.stopped) hv' (.int .i64 sk) (.int .i64 s.late)) :=
  ⟨Has.here7 _ _ _ _ _ _ _ h.p, Has.there7 _ _ _ _ _ _ _ h.r (by omega), below7 _ _ _ _ _ _ _ h.below (Nat.le_refl _)⟩
theorem Bz.grown_ {W W' : World} {clk sk : Int} {g : Nat} (h : Bz w s hv clk sk W) (k : W.grownBy W' (some g)) (hg : w.heap.size + 1 < g) : Bz w s hv clk sk W' :=
  ⟨h.p.grown k (by simp; omega), h.r.grown k (by simp; omega), h.below.trans (only_below k (by omega) h.below.size)⟩
theorem Bz.all {W : World} {clk sk : Int} (h : Bz w s hv clk sk W) : (∀ i : Nat, W.cell? ⟨w.heap.size, i, none⟩ = #[.int .i64 s.start, .int .i64 s.width, .int .i64 clk, .bool s.stopped, hv, .int .i64 sk, .int .i64 s.late][i]?) ∧ (∀ i : Nat, W.frozen? ⟨w.heap.size, i, none⟩ = false) ∧
    (∀ i : Nat, W.cell? ⟨w.heap.size + 1, i, none⟩ = #[.int .i64 0, .int .i64 0, .int .i64 0, .bool false, .slice none 0 0, .int .i64 0, .int .i64 0][i]?) ∧ (∀ i : Nat, W.frozen? ⟨w.heap.size + 1, i, none⟩ = false) := ⟨h.p.cell, h.p.free, h.r.cell, h.r.free⟩

set_option maxHeartbeats 4000000 in
theorem rmove_bad (now : Int) (hm : Ak.moveOk s now = false) :
    Calls Try.prog 35 #[.agg #[.int .i64 s.start, .int .i64 s.width, .int .i64 s.clock, .bool s.stopped, .slice A m c, .int .i64 s.skipped, .int .i64 s.late], .int .i64 now] w
      fun e w' => e = .returned (.tuple #[.agg #[.int .i64 s.start, .int .i64 s.width, .int .i64 s.clock, .bool s.stopped, .slice A m c, .int .i64 s.skipped, .int .i64 s.late], .int .i64 0, .int .i64 320]) ∧ Below w.heap.size w w' := by
  have HB := Lib.hid (Bz.start w s (.slice A m c))
  simp only [Ak.moveOk, Bool.not_eq_false'] at hm
  rcases h1 : decide (now < s.clock) with _ | _
  · rw [h1, Bool.false_or] at hm
    go_enter Try.func35, Try.ntmps35
    go_wp2
    exact bodyPost_ret (v := .tuple #[.agg #[.int .i64 s.start, .int .i64 s.width, .int .i64 s.clock, .bool s.stopped, .slice A m c, .int .i64 s.skipped, .int .i64 s.late], .int .i64 0, .int .i64 320]) (by simp [results, Try.results35, go_sem]) rfl
      ⟨rfl, ((Below.refl _ _).alloc (Nat.le_refl _) _).alloc (by simp) _⟩
  · clear hm
    go_enter Try.func35, Try.ntmps35
    go_wp2
    exact bodyPost_ret (v := .tuple #[.agg #[.int .i64 s.start, .int .i64 s.width, .int .i64 s.clock, .bool s.stopped, .slice A m c, .int .i64 s.skipped, .int .i64 s.late], .int .i64 0, .int .i64 320]) (by simp [results, Try.results35, go_sem]) rfl
      ⟨rfl, ((Below.refl _ _).alloc (Nat.le_refl _) _).alloc (by simp) _⟩

/-- What the walk of Move asks of the numbers. -/
theorem Ak.move_facts {now : Int} (hk : Ak.Ok N s) (hm : Ak.moveOk s now = true) :
    decide (now < s.clock) = false ∧ decide (281474976710656 < now) = false ∧ s.start ≤ now ∧ now ≤ 281474976710656 ∧
    (decide (now < s.start + s.width + Ak.dueOf s.start s.width s.clock * s.width) = decide (Ak.steps s now = 0)) ∧
    s.start + s.width + Ak.dueOf s.start s.width now * s.width - s.width = s.start + Ak.due s now * s.width ∧
    (Ak.steps s now ≠ 0 → (s.start + Ak.due s now * s.width - (s.start + s.width + Ak.dueOf s.start s.width s.clock * s.width)).tdiv s.width = Ak.steps s now - 1) ∧
    0 ≤ Ak.due s now * s.width ∧ Ak.due s now * s.width ≤ now - s.start ∧ 0 ≤ Ak.dueOf s.start s.width s.clock * s.width ∧ Ak.dueOf s.start s.width s.clock * s.width ≤ s.clock - s.start ∧ 0 ≤ Ak.steps s now ∧ Ak.steps s now ≤ 281474976710656 := by
  simp only [Ak.moveOk, Bool.not_eq_true', Bool.or_eq_false_iff] at hm
  obtain ⟨h1, h2⟩ := hm
  have h3 : ¬ now < s.clock := by simpa using h1
  have h4 : ¬ 281474976710656 < now := by simpa using h2
  obtain ⟨k0, k1, k2, k3, k4⟩ := Ak.due_spec hk.w1 (show s.start ≤ now by have := hk.c0; omega)
  obtain ⟨l0, l1, l2, l3, l4⟩ := Ak.due_spec hk.w1 hk.c0
  have hmono : Ak.dueOf s.start s.width s.clock ≤ Ak.dueOf s.start s.width now := Ak.due_mono hk.w1 (by omega)
  have hw := hk.w1
  have hs0 := hk.s0
  have hst : Ak.steps s now = Ak.dueOf s.start s.width now - Ak.dueOf s.start s.width s.clock := rfl
  have hdu : Ak.due s now = Ak.dueOf s.start s.width now := rfl
  have hc0 := hk.c0
  rw [hdu, hst]
  refine ⟨h1, h2, by omega, by omega, ?_, by omega, fun hne => ?_, k2, k3, l2, l3, by omega, by omega⟩
  · rw [decide_eq_decide]
    constructor
    · intro h
      have : Ak.dueOf s.start s.width now < Ak.dueOf s.start s.width s.clock + 1 := by
        refine Int.lt_of_mul_lt_mul_right (a := s.width) ?_ (by omega)
        rw [Int.add_mul, Int.one_mul]
        omega
      omega
    · intro h
      have : Ak.dueOf s.start s.width now = Ak.dueOf s.start s.width s.clock := by omega
      rw [this] at k4
      omega
  · have e : s.start + Ak.dueOf s.start s.width now * s.width - (s.start + s.width + Ak.dueOf s.start s.width s.clock * s.width) = (Ak.dueOf s.start s.width now - Ak.dueOf s.start s.width s.clock - 1) * s.width := by
      rw [Int.sub_mul, Int.sub_mul, Int.one_mul]; omega
    rw [e, Int.mul_tdiv_cancel _ (by omega)]

set_option maxHeartbeats 4000000 in
theorem rmove_stay (now : Int) (hk : Ak.Ok N s) (hm : Ak.moveOk s now = true) (ho : Ak.opens s now = false) :
    Calls Try.prog 35 #[.agg #[.int .i64 s.start, .int .i64 s.width, .int .i64 s.clock, .bool s.stopped, .slice A m c, .int .i64 s.skipped, .int .i64 s.late], .int .i64 now] w
      fun e w' => e = .returned (.tuple #[.agg #[.int .i64 s.start, .int .i64 s.width, .int .i64 now, .bool s.stopped, .slice A m c, .int .i64 s.skipped, .int .i64 s.late], .int .i64 0, .int .i64 0]) ∧ Below w.heap.size w w' := by
  have HB := Lib.hid (Bz.start w s (.slice A m c))
  obtain ⟨h1, h2, -, -, h3, -⟩ := Ak.move_facts hk hm
  have HC := Lib.hid (rafter_any s.start s.width s.clock s.skipped s.late s.clock s.stopped A m c ((w.alloc (.cells #[.int .i64 s.start, .int .i64 s.width, .int .i64 s.clock, .bool s.stopped, .slice A m c, .int .i64 s.skipped, .int .i64 s.late] 61)).alloc (.cells #[.int .i64 0, .int .i64 0, .int .i64 0, .bool false, .slice none 0 0, .int .i64 0, .int .i64 0] 61)) hk.s0 hk.w1 hk.w2 hk.c0 hk.c1)
  have hq : decide (Ak.steps s now = 0) = true ∨ (decide (Ak.steps s now = 0) = false ∧ s.stopped = true) := by
    rcases hx : decide (Ak.steps s now = 0) with _ | _
    · refine Or.inr ⟨rfl, ?_⟩
      simpa [Ak.opens, hm, hx] using ho
    · exact Or.inl rfl
  generalize s.start + s.width + Ak.dueOf s.start s.width s.clock * s.width = F at *
  generalize decide (Ak.steps s now = 0) = d at *
  clear hm ho hk
  rcases hq with rfl | ⟨rfl, hst⟩
  · go_enter Try.func35, Try.ntmps35
    go_wp2_with fail
    refine HC.out.mono ?_
    rintro e w2 ⟨rfl, hb2⟩
    have HB2 := Lib.hid (HB.out.on hb2)
    obtain ⟨cp, fp, cq, fq⟩ := HB2.out.all
    clear hb2
    go_wp2
    exact bodyPost_ret (v := .tuple #[.agg #[.int .i64 s.start, .int .i64 s.width, .int .i64 now, .bool s.stopped, .slice A m c, .int .i64 s.skipped, .int .i64 s.late], .int .i64 0, .int .i64 0]) (by simp [results, Try.results35, go_sem, cq]) rfl
      ⟨rfl, by repeat (first | refine below_set ?_ _ _ _ (by omega) | exact HB2.out.below)⟩
  · rw [hst] at HB HC ⊢
    go_enter Try.func35, Try.ntmps35
    go_wp2_with fail
    refine HC.out.mono ?_
    rintro e w2 ⟨rfl, hb2⟩
    have HB2 := Lib.hid (HB.out.on hb2)
    obtain ⟨cp, fp, cq, fq⟩ := HB2.out.all
    rw [hst] at cp
    clear hst
    clear hb2
    go_wp2
    exact bodyPost_ret (v := .tuple #[.agg #[.int .i64 s.start, .int .i64 s.width, .int .i64 now, .bool true, .slice A m c, .int .i64 s.skipped, .int .i64 s.late], .int .i64 0, .int .i64 0]) (by simp [results, Try.results35, go_sem, cq]) rfl
      ⟨rfl, by repeat (first | refine below_set ?_ _ _ _ (by omega) | exact HB2.out.below)⟩

set_option maxRecDepth 100000 in
set_option maxHeartbeats 16000000 in
theorem rmove_opens (now : Int) (hr : Row w base rs (.slice A rs.length c)) (hf : Ak.Rf s rs) (hl : rs.length ≤ 1000000) (hb : base ≤ w.heap.size) (hk : Ak.Ok N s) (hm : Ak.moveOk s now = true) (ho : Ak.opens s now = true) :
    Calls Try.prog 35 #[.agg #[.int .i64 s.start, .int .i64 s.width, .int .i64 s.clock, .bool s.stopped, .slice A rs.length c, .int .i64 s.skipped, .int .i64 s.late], .int .i64 now] w
      fun e w' => ∃ g' c', e = .returned (.tuple #[.agg #[.int .i64 s.start, .int .i64 s.width, .int .i64 now, .bool s.stopped, .slice (some ⟨g', 0, none⟩) (rs.length + 1) c', .int .i64 (s.skipped + (Ak.steps s now - 1)), .int .i64 s.late], .int .i64 (rs.length + 1 : Nat), .int .i64 0]) ∧
        Out w w' base (.slice A rs.length c) (Ak.rend s rs 3 ++ [(s.start + Ak.due s now * s.width, 0)]) (.slice (some ⟨g', 0, none⟩) (rs.length + 1) c') := by
  obtain ⟨i0, hi, hz0, hz1, hz2⟩ := info_parts Try.info70
  have HB := Lib.hid (Bz.start w s (.slice A rs.length c))
  have HR := Lib.hid (hr.on_ (((Below.refl _ _).alloc (Nat.le_refl _) (.cells #[.int .i64 s.start, .int .i64 s.width, .int .i64 s.clock, .bool s.stopped, .slice A rs.length c, .int .i64 s.skipped, .int .i64 s.late] 61)).alloc (by simp) (.cells #[.int .i64 0, .int .i64 0, .int .i64 0, .bool false, .slice none 0 0, .int .i64 0, .int .i64 0] 61)))
  have HF := Lib.hid hf
  have hst : s.stopped = false := by
    simp only [Ak.opens, hm, Bool.true_and, Bool.and_eq_true, Bool.not_eq_true'] at ho
    exact ho.2
  have hn0 : Ak.steps s now ≠ 0 := by
    simp only [Ak.opens, hm, Bool.true_and, Bool.and_eq_true, Bool.not_eq_true', decide_eq_false_iff_not] at ho
    exact ho.1
  obtain ⟨h1, h2, n0, n1, h3, h4, h5, b0, b1, b2, b3, b4, b5⟩ := Ak.move_facts hk hm
  have h5 := h5 hn0
  rw [show decide (Ak.steps s now = 0) = false by simpa using hn0] at h3
  have k0 := hk.k0
  have k1 : s.skipped ≤ 281474976710656 := by have := hk.k1; have := hk.due0; omega
  have s0 := hk.s0
  have c0 := hk.c0
  have c1 := hk.c1
  have w1 := hk.w1
  have w2 := hk.w2
  have HC : Hid (∀ (m : Nat) (A : Option Addr) (c : Nat) (clk : Int) w, Calls Try.prog 38 #[.agg #[.int .i64 s.start, .int .i64 s.width, .int .i64 clk, .bool false, .slice A m c, .int .i64 s.skipped, .int .i64 s.late], .int .i64 s.clock] w
      fun e w' => e = .returned (.int .i64 (s.start + s.width + Ak.dueOf s.start s.width s.clock * s.width)) ∧ Below w.heap.size w w') := Lib.hid fun m A c clk w => rafter_any s.start s.width clk s.skipped s.late s.clock false A m c w s0 w1 w2 c0 c1
  have HD : Hid (∀ (m : Nat) (A : Option Addr) (c : Nat) (clk : Int) w, Calls Try.prog 38 #[.agg #[.int .i64 s.start, .int .i64 s.width, .int .i64 clk, .bool false, .slice A m c, .int .i64 s.skipped, .int .i64 s.late], .int .i64 now] w
      fun e w' => e = .returned (.int .i64 (s.start + s.width + Ak.dueOf s.start s.width now * s.width)) ∧ Below w.heap.size w w') := Lib.hid fun m A c clk w => rafter_any s.start s.width clk s.skipped s.late now false A m c w s0 w1 w2 n0 n1
  have HE : Hid (∀ (w : World) (base : Nat) (A : Option Addr) (c : Nat), Row w base rs (.slice A rs.length c) → Calls Try.prog 39 #[.agg #[.int .i64 s.start, .int .i64 s.width, .int .i64 now, .bool false, .slice A rs.length c, .int .i64 s.skipped, .int .i64 s.late], .int .i64 3] w
      fun e w' => ∃ g' c', e = .returned (.agg #[.int .i64 s.start, .int .i64 s.width, .int .i64 now, .bool false, .slice (some ⟨g', 0, none⟩) rs.length c', .int .i64 s.skipped, .int .i64 s.late]) ∧
        Row w' w.heap.size (Ak.rend s rs 3) (.slice (some ⟨g', 0, none⟩) rs.length c') ∧ Below w.heap.size w w') := Lib.hid fun w base A c hrow =>
    rend_any (s := { s with clock := now, stopped := false }) 3 hrow ⟨hf.len, hf.op, hf.g, hf.b, hf.f⟩ hl
  have hpos := hr.pos
  have HR0 := Lib.hid hr
  have hlen := Ak.rend_length hf 3
  generalize hL : s.start + Ak.due s now * s.width = L at *
  generalize hG : s.start + s.width + Ak.dueOf s.start s.width now * s.width = G at *
  generalize hS : Ak.steps s now = S at *
  generalize hF : s.start + s.width + Ak.dueOf s.start s.width s.clock * s.width = F at *
  have L0 : 0 ≤ L ∧ L ≤ 281474976710656 := by omega
  have F0 : 0 ≤ F ∧ F ≤ 281474976710656 + 1099511627776 := by omega
  have g1 : IntKind.i64.wrap (G - s.width) = L := by rw [h4]; exact IntWalk.i64_in _ (by omega)
  have g2 : IntKind.i64.wrap (L - F) = L - F := IntWalk.i64_in _ (by omega)
  have g3 : IntKind.i64.wrap (S - 1) = S - 1 := IntWalk.i64_in _ (by omega)
  have g4 : IntKind.i64.wrap (s.skipped + (S - 1)) = s.skipped + (S - 1) := IntWalk.i64_in _ (by omega)
  have hz : ¬ s.width = 0 := by omega
  clear hm ho hk hr hf hn0 hL hG hS hF b0 b1 b2 b3 k0 k1 s0 c0 c1 n0 n1 h4 L0 F0
  rw [hst] at HB HR ⊢
  go_enter Try.func35, Try.ntmps35
  go_wp2_with fail
  refine (HC.out _ _ _ _ _).mono ?_
  rintro e x2 ⟨rfl, hb2⟩
  have HB2 := Lib.hid ((HB.out.on hb2).clock now)
  have HR2 := Lib.hid (HR.out.on_ hb2)
  obtain ⟨cp, fp, cq, fq⟩ := (HB.out.on hb2).all
  rw [hst] at cp
  clear hb2
  go_upto_region 7 with fail
  obtain ⟨W3, hW3⟩ : ∃ W3, W3 = x2.setCell ⟨w.heap.size, 2, none⟩ (.int .i64 now) := ⟨_, rfl⟩
  have HR3 : Hid (Row W3 base rs (.slice A rs.length c)) := Lib.hid (hW3 ▸ HR2.out.set_ (fun e => by have h1 := (HR0.out.own.lt _ e).2; omega) _ _)
  rw [← hW3] at HB2 ⊢
  have hall : W3.cell? ⟨w.heap.size, 0, none⟩ = some (.int .i64 s.start) ∧ W3.cell? ⟨w.heap.size, 1, none⟩ = some (.int .i64 s.width) ∧ W3.cell? ⟨w.heap.size, 2, none⟩ = some (.int .i64 now) ∧ W3.cell? ⟨w.heap.size, 3, none⟩ = some (.bool false) ∧ W3.cell? ⟨w.heap.size, 4, none⟩ = some (.slice A rs.length c) ∧ W3.cell? ⟨w.heap.size, 5, none⟩ = some (.int .i64 s.skipped) ∧ W3.cell? ⟨w.heap.size, 6, none⟩ = some (.int .i64 s.late) := by
    obtain ⟨ca, -⟩ := HB2.out.all
    rw [hst] at ca
    exact ⟨ca 0, ca 1, ca 2, ca 3, ca 4, ca 5, ca 6⟩
  obtain ⟨p0, p1, p2, p3, p4, p5, p6⟩ := hall
  clear cp fp cq fq hW3
  go_region_held3 (fun W => W.cell? ⟨w.heap.size, 0, none⟩ = some (.int .i64 s.start) ∧ W.cell? ⟨w.heap.size, 1, none⟩ = some (.int .i64 s.width) ∧ W.cell? ⟨w.heap.size, 2, none⟩ = some (.int .i64 now) ∧ W.cell? ⟨w.heap.size, 3, none⟩ = some (.bool false) ∧ W.cell? ⟨w.heap.size, 4, none⟩ = some (.slice A rs.length c) ∧ W.cell? ⟨w.heap.size, 5, none⟩ = some (.int .i64 s.skipped) ∧ W.cell? ⟨w.heap.size, 6, none⟩ = some (.int .i64 s.late)) (go_keep)
    (first | (go_at_call 38; refine (HD.out _ _ _ _ _).mono ?_; rintro e x4 ⟨rfl, hb4⟩; have HB4 := Lib.hid (HB2.out.drew.on hb4); have HR4 := Lib.hid ((HR3.out.on_ (Below.refl _ _).drew).on_ hb4); have hall : x4.cell? ⟨w.heap.size, 0, none⟩ = some (.int .i64 s.start) ∧ x4.cell? ⟨w.heap.size, 1, none⟩ = some (.int .i64 s.width) ∧ x4.cell? ⟨w.heap.size, 2, none⟩ = some (.int .i64 now) ∧ x4.cell? ⟨w.heap.size, 3, none⟩ = some (.bool false) ∧ x4.cell? ⟨w.heap.size, 4, none⟩ = some (.slice A rs.length c) ∧ x4.cell? ⟨w.heap.size, 5, none⟩ = some (.int .i64 s.skipped) ∧ x4.cell? ⟨w.heap.size, 6, none⟩ = some (.int .i64 s.late) := (by obtain ⟨ca, -⟩ := HB4.out.all; rw [hst] at ca; exact ⟨ca 0, ca 1, ca 2, ca 3, ca 4, ca 5, ca 6⟩); obtain ⟨p0, p1, p2, p3, p4, p5, p6⟩ := hall; clear hb4))
  go_wp2_with fail
  refine (HE.out _ _ _ _ HR4.out).mono ?_
  rintro e x5 ⟨g5, c5, rfl, hr5, hb5⟩
  have hz4 : w.heap.size + 1 < x4.heap.size := Has.lt HB4.out.r
  have hg5 := (hr5.own.lt g5 (by simp [Value.ownBlock])).1
  have hbz5 := HB4.out.on hb5
  obtain ⟨cp, fp, -, -⟩ := hbz5.all
  clear p0 p1 p2 p3 p4 p5 p6
  go_upto_region 9 with fail
  clear cp fp
  obtain ⟨W6, hW6⟩ : ∃ W6, W6 = set7 x5 w.heap.size (.int .i64 s.start) (.int .i64 s.width) (.int .i64 now) (.bool false) (.slice (some ⟨g5, 0, none⟩) rs.length c5) (.int .i64 s.skipped) (.int .i64 s.late) := ⟨_, rfl⟩
  have hb6 : Bz w s (.slice (some ⟨g5, 0, none⟩) rs.length c5) now s.skipped W6 := by
    have := hbz5.whole (.slice (some ⟨g5, 0, none⟩) rs.length c5)
    rw [hst] at this
    exact hW6 ▸ this
  have hr6 : Row W6 x4.heap.size (Ak.rend s rs 3) (.slice (some ⟨g5, 0, none⟩) rs.length c5) := hW6 ▸ hr5.set7_ _ _ _ _ _ _ _ (by simp [Value.ownBlock]; omega)
  unfold set7 at hW6
  rw [← hW6]
  have HB6 := Lib.hid hb6
  have HR6 := Lib.hid hr6
  have hall : W6.cell? ⟨w.heap.size, 0, none⟩ = some (.int .i64 s.start) ∧ W6.cell? ⟨w.heap.size, 1, none⟩ = some (.int .i64 s.width) ∧ W6.cell? ⟨w.heap.size, 2, none⟩ = some (.int .i64 now) ∧ W6.cell? ⟨w.heap.size, 3, none⟩ = some (.bool false) ∧ W6.cell? ⟨w.heap.size, 4, none⟩ = some (.slice (some ⟨g5, 0, none⟩) rs.length c5) ∧ W6.cell? ⟨w.heap.size, 5, none⟩ = some (.int .i64 s.skipped) ∧ W6.cell? ⟨w.heap.size, 6, none⟩ = some (.int .i64 s.late) := by
    obtain ⟨ca, -⟩ := hb6.all
    rw [hst] at ca
    exact ⟨ca 0, ca 1, ca 2, ca 3, ca 4, ca 5, ca 6⟩
  obtain ⟨p0, p1, p2, p3, p4, p5, p6⟩ := hall
  have fp := hb6.p.free
  clear hbz5 hr5 hb5 hW6 hb6 hr6
  go_region
  obtain ⟨W7, hW7⟩ : ∃ W7, W7 = (W6.setCell ⟨w.heap.size, 5, none⟩ (.int .i64 (s.skipped + (S - 1)))).drew := ⟨_, rfl⟩
  have hb7 : Bz w s (.slice (some ⟨g5, 0, none⟩) rs.length c5) now (s.skipped + (S - 1)) W7 := hW7 ▸ (HB6.out.skip _).drew
  have hr7 : Row W7 x4.heap.size (Ak.rend s rs 3) (.slice (some ⟨g5, 0, none⟩) rs.length c5) := hW7 ▸ (HR6.out.set_ (by simp [Value.ownBlock]; omega) _ _).on_ (Below.refl _ _).drew
  have hz7 : x4.heap.size ≤ W7.heap.size := by
    have := (hr7.own.lt g5 (by simp [Value.ownBlock])).2
    omega
  rw [← hW7]
  have HB7 := Lib.hid hb7
  have HO7 : Hid (W7.ownsRow x4.heap.size 70 2 (.slice (some ⟨g5, 0, none⟩) rs.length c5) rs.length (flat (Ak.rend s rs 3))) := by
    have := hr7.own
    rw [hlen] at this
    exact Lib.hid this
  have c4 : W7.cell? ⟨w.heap.size, 4, none⟩ = some (.slice (some ⟨g5, 0, none⟩) rs.length c5) := hb7.p.cell 4
  clear p0 p1 p2 p3 p4 p5 p6 fp hW7 hb7 hr7
  go_upto_region 11 with (at_builtin; refine wpList_app (by rfl) (.tmp 51) (.tmp 54) 59 (by rfl) x4.heap.size 70 i0 _ 2 16 Try.underlying59 hi hz0 hz1 hz2 rfl (by decide) (.slice (some ⟨g5, 0, none⟩) rs.length c5) rs.length (flat (Ak.rend s rs 3)) (by rfl) (HO7.out.alloc _) (.slice (some ⟨W7.heap.size, 0, none⟩) 1 1) 1 [.int .i64 L, .int .i64 0] (by rfl) (Src.block (t := 70) (cs := #[.int .i64 L, .int .i64 0]) (Has.made _ _ _) rfl (by simp [Value.oneCell'])) (by unfold maxLen; omega) (by omega) (by simp; omega) ?_; intro A8 c8 w8 hown8 hg8; have hb8 := (HB7.out.on ((Below.refl _ _).alloc (Nat.le_refl _) (.cells #[.int .i64 L, .int .i64 0] 70))).grown_ (g := g5) hg8 (by omega); have HB8 := Lib.hid hb8; have HO8 := Lib.hid hown8; have cp := hb8.p.cell; have fp := hb8.p.free; clear hown8 hg8 hb8 c4)
  clear cp fp
  obtain ⟨W9, hW9⟩ : ∃ W9, W9 = w8.setCell ⟨w.heap.size, 4, none⟩ (.slice A8 (rs.length + 1) c8) := ⟨_, rfl⟩
  have hb9 : Bz w s (.slice A8 (rs.length + 1) c8) now (s.skipped + (S - 1)) W9 := hW9 ▸ HB8.out.slice _
  have hlen2 : (Ak.rend s rs 3 ++ [(L, (0 : Int))]).length = rs.length + 1 := by simp [hlen]
  have hr9 : Row W9 x4.heap.size (Ak.rend s rs 3 ++ [(L, 0)]) (.slice A8 (rs.length + 1) c8) := by
    refine ⟨?_, by omega⟩
    rw [hlen2, flat_append]
    exact hW9 ▸ own_set HO8.out _ _ _ (by omega)
  obtain ⟨g9, cap9, e9, k0, k1, k2, k3⟩ := hr9.shape
  injection e9 with e9 e9b e9c
  subst e9
  clear e9b e9c k2 k3
  rw [← hW9]
  have HB9 := Lib.hid hb9.below
  have HR9 := Lib.hid hr9
  have hall : W9.cell? ⟨w.heap.size, 0, none⟩ = some (.int .i64 s.start) ∧ W9.cell? ⟨w.heap.size, 1, none⟩ = some (.int .i64 s.width) ∧ W9.cell? ⟨w.heap.size, 2, none⟩ = some (.int .i64 now) ∧ W9.cell? ⟨w.heap.size, 3, none⟩ = some (.bool false) ∧ W9.cell? ⟨w.heap.size, 4, none⟩ = some (.slice (some ⟨g9, 0, none⟩) (rs.length + 1) c8) ∧ W9.cell? ⟨w.heap.size, 5, none⟩ = some (.int .i64 (s.skipped + (S - 1))) ∧ W9.cell? ⟨w.heap.size, 6, none⟩ = some (.int .i64 s.late) := by
    obtain ⟨ca, -⟩ := hb9.all
    rw [hst] at ca
    exact ⟨ca 0, ca 1, ca 2, ca 3, ca 4, ca 5, ca 6⟩
  obtain ⟨p0, p1, p2, p3, p4, p5, p6⟩ := hall
  have cq : ∀ i : Nat, W9.cell? ⟨w.heap.size + 1, i, none⟩ = #[.int .i64 0, .int .i64 0, .int .i64 0, .bool false, .slice none 0 0, .int .i64 0, .int .i64 0][i]? := hb9.r.cell
  have fq := hb9.r.free
  clear hb9 hr9 hW9 HB8 HO8 HB7 HO7 HB6 HR6 HB4 HR4 HB2 HR3 HC HD HE
  go_region
  go_wp2
  exact bodyPost_ret (v := .tuple #[.agg #[.int .i64 s.start, .int .i64 s.width, .int .i64 now, .bool false, .slice (some ⟨g9, 0, none⟩) (rs.length + 1) c8, .int .i64 (s.skipped + (S - 1)), .int .i64 s.late], .int .i64 (rs.length + 1 : Nat), .int .i64 0]) (by simp [results, Try.results35, go_sem, cq]) rfl
    ⟨g9, c8, rfl, Out.new hb (Row.less (base := x4.heap.size) ((Row.set7_ _ _ _ _ _ _ _ HR9.out (by simp [Value.ownBlock]; omega)).on_ (Below.refl _ _).drew) (by omega)) (below7 _ _ _ _ _ _ _ HB9.out (Nat.le_succ _)).drew⟩
end
end Go.Proofs.Ytdbknbgomcabbaa
