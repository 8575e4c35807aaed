/- The reference's functions, walked (2): Next, Move, Answer, Stop. Conditions: the reference's state in memory, numbers in bounds. -/
import Derived.Test.YtdbknbgomcabbaaBFn
import Derived.Deep.Cut
namespace Go.Proofs.Ytdbknbgomcabbaa
open Go.RowKit

/-- Behind a call that began in world w: the slice hv' holds the requests rs', hv' lies where hv lay or is new, and what was there is as it was. -/
structure Out (w w' : World) (base : Nat) (hv : Value) (rs' : List Ak.Req) (hv' : Value) : Prop where
  row : Row w' base rs' hv'
  below : Below w.heap.size w w'
  later : Later w hv hv'

/-- A state's block, stored whole. -/
def set7 (W : World) (g : Nat) (u0 u1 u2 u3 u4 u5 u6 : Value) : World :=
  ((((((W.setCell ⟨g, 0, none⟩ u0).setCell ⟨g, 1, none⟩ u1).setCell ⟨g, 2, none⟩ u2).setCell ⟨g, 3, none⟩ u3).setCell ⟨g, 4, none⟩ u4).setCell ⟨g, 5, none⟩ u5).setCell ⟨g, 6, none⟩ u6
section
variable {W w : World} {g B : Nat} {v0 v1 v2 v3 v4 v5 v6 : Value} (u0 u1 u2 u3 u4 u5 u6 : Value)
set_option maxHeartbeats 4000000 in
theorem Has.here7 (h : Has W g 61 #[v0, v1, v2, v3, v4, v5, v6]) : Has (set7 W g u0 u1 u2 u3 u4 u5 u6) g 61 #[u0, u1, u2, u3, u4, u5, u6] :=
  ((((((h.here 0 u0).here 1 u1).here 2 u2).here 3 u3).here 4 u4).here 5 u5).here 6 u6
theorem Has.there7 {k : Nat} {t : TypeId} {cs : Array Value} (h : Has W k t cs) (hne : k ≠ g) : Has (set7 W g u0 u1 u2 u3 u4 u5 u6) k t cs :=
  have l : ∀ i, k ≠ (⟨g, i, none⟩ : Addr).block := fun _ => hne
  ((((((h.there (l 0) u0).there (l 1) u1).there (l 2) u2).there (l 3) u3).there (l 4) u4).there (l 5) u5).there (l 6) u6
theorem below7 (h : Below B w W) (hg : B ≤ g) : Below B w (set7 W g u0 u1 u2 u3 u4 u5 u6) :=
  below_set (below_set (below_set (below_set (below_set (below_set (below_set h _ _ _ hg) _ _ _ hg) _ _ _ hg) _ _ _ hg) _ _ _ hg) _ _ _ hg) _ _ _ hg
theorem Row.set7_ {base : Nat} {rs : List Ak.Req} {hv : Value} (h : Row W base rs hv) (ha : hv.ownBlock ≠ some g) : Row (set7 W g u0 u1 u2 u3 u4 u5 u6) base rs hv :=
  ((((((h.set_ ha 0 u0).set_ ha 1 u1).set_ ha 2 u2).set_ ha 3 u3).set_ ha 4 u4).set_ ha 5 u5).set_ ha 6 u6
end

section
variable {base : Nat} {s : Ak.St} {rs : List Ak.Req} {w : World} {A : Option Addr} {c m : Nat} {N : Int} {hv : Value}

theorem Out.same {w' : World} (hr : Row w base rs hv) (k : Below w.heap.size w w') : Out w w' base hv rs hv := ⟨hr.on_ k, k, fun _ _ h => h⟩
theorem Out.new {w' : World} {rs' : List Ak.Req} {g c' m' : Nat} (hb : base ≤ w.heap.size) (hr : Row w' w.heap.size rs' (.slice (some ⟨g, 0, none⟩) m' c')) (k : Below w.heap.size w w') : Out w w' base hv rs' (.slice (some ⟨g, 0, none⟩) m' c') :=
  ⟨hr.less hb, k, fun x hx _ => by
    have := (hr.own.lt g (by simp [Value.ownBlock])).1
    simp [Value.ownBlock]; omega⟩

set_option maxHeartbeats 2000000 in
theorem rnext_any (hk : Ak.Ok N s) :
    Calls Try.prog 33 #[.agg #[.int .i64 s.start, .int .i64 s.width, .int .i64 s.clock, .bool s.stopped, .slice A m c, .int .i64 s.skipped, .int .i64 s.late]] w
      fun e w' => e = .returned (.tuple #[.int .i64 (Ak.next s), .bool (Ak.hasNext s)]) ∧ Below w.heap.size w w' := by
  have hbl : Below w.heap.size w (w.alloc (.cells #[.int .i64 s.start, .int .i64 s.width, .int .i64 s.clock, .bool s.stopped, .slice A m c, .int .i64 s.skipped, .int .i64 s.late] 61)) := (Below.refl _ _).alloc (Nat.le_refl _) _
  have HB := Lib.hid hbl
  have HH : Hid (Has (w.alloc (.cells #[.int .i64 s.start, .int .i64 s.width, .int .i64 s.clock, .bool s.stopped, .slice A m c, .int .i64 s.skipped, .int .i64 s.late] 61)) w.heap.size 61 #[.int .i64 s.start, .int .i64 s.width, .int .i64 s.clock, .bool s.stopped, .slice A m c, .int .i64 s.skipped, .int .i64 s.late]) := Lib.hid (Has.made _ _ _)
  have HC := Lib.hid (rafter_any s.start s.width s.clock s.skipped s.late s.clock s.stopped A m c (w.alloc (.cells #[.int .i64 s.start, .int .i64 s.width, .int .i64 s.clock, .bool s.stopped, .slice A m c, .int .i64 s.skipped, .int .i64 s.late] 61)) hk.s0 hk.w1 hk.w2 hk.c0 hk.c1)
  have hq : s.start + s.width + Ak.dueOf s.start s.width s.clock * s.width = s.start + (Ak.due s s.clock + 1) * s.width := by
    have : (Ak.dueOf s.start s.width s.clock + 1) * s.width = Ak.dueOf s.start s.width s.clock * s.width + s.width := by rw [Int.add_mul, Int.one_mul]
    show _ = s.start + (Ak.dueOf s.start s.width s.clock + 1) * s.width
    omega
  have hp := (Ak.due_spec hk.w1 hk.c0).2.2.1
  have h0 := hk.s0
  have h1 := hk.w1
  rw [hq] at HC
  have hat : 1 ≤ s.start + (Ak.due s s.clock + 1) * s.width := by omega
  generalize hx : s.start + (Ak.due s s.clock + 1) * s.width = x at *
  clear hq hp h0 h1 hbl hk
  rcases hst : s.stopped with _ | _
  · rcases hd : decide (281474976710656 < x) with _ | _
    · have HE : Hid (Ak.next s = x ∧ Ak.hasNext s = true) := by
        show _ ∧ _
        have hd2 : ¬ 281474976710656 < x := by simpa using hd
        have hx0 : ¬ x = 0 := by omega
        simp [Ak.next, Ak.hasNext, Ak.nextAt, hst, hx, hd2, hx0]
      rw [hst] at HB HH HC
      clear hx
      go_enter Try.func33, Try.ntmps33
      go_wp2_with fail
      refine HC.out.mono ?_
      rintro e w2 ⟨rfl, hb2⟩
      have c3 : w2.cell? ⟨w.heap.size, 3, none⟩ = some (.bool false) := (HH.out.below hb2 (Has.lt HH.out)).cell 3
      have HB2 := Lib.hid (HB.out.trans (hb2.mono HB.out.size))
      clear hb2
      go_wp2
      go_ret2
      exact ⟨by rw [HE.out.1, HE.out.2] <;> rfl, HB2.out⟩
    · have HE : Hid (Ak.next s = 0 ∧ Ak.hasNext s = false) := by
        show _ ∧ _
        have hd2 : 281474976710656 < x := by simpa using hd
        simp [Ak.next, Ak.hasNext, Ak.nextAt, hst, hx, hd2]
      rw [hst] at HB HH HC
      clear hx
      go_enter Try.func33, Try.ntmps33
      go_wp2_with fail
      refine HC.out.mono ?_
      rintro e w2 ⟨rfl, hb2⟩
      have c3 : w2.cell? ⟨w.heap.size, 3, none⟩ = some (.bool false) := (HH.out.below hb2 (Has.lt HH.out)).cell 3
      have HB2 := Lib.hid (HB.out.trans (hb2.mono HB.out.size))
      clear hb2
      go_wp2
      go_ret2
      exact ⟨by rw [HE.out.1, HE.out.2] <;> rfl, HB2.out⟩
  · have HE : Hid (Ak.next s = 0 ∧ Ak.hasNext s = false) := by
      show _ ∧ _
      simp [Ak.next, Ak.hasNext, Ak.nextAt, hst]
    rw [hst] at HB HH HC
    clear hx
    go_enter Try.func33, Try.ntmps33
    go_wp2_with fail
    refine HC.out.mono ?_
    rintro e w2 ⟨rfl, hb2⟩
    have c3 : w2.cell? ⟨w.heap.size, 3, none⟩ = some (.bool true) := (HH.out.below hb2 (Has.lt HH.out)).cell 3
    have HB2 := Lib.hid (HB.out.trans (hb2.mono HB.out.size))
    clear hb2
    go_wp2
    go_ret2
    exact ⟨by rw [HE.out.1, HE.out.2] <;> rfl, HB2.out⟩

set_option maxHeartbeats 4000000 in
theorem rstop_any (hr : Row w base rs (.slice A rs.length c)) (hf : Ak.Rf s rs) (hl : rs.length ≤ 1000000) (hb : base ≤ w.heap.size) (h0 : 0 ≤ s.opn) :
    Calls Try.prog 37 #[.agg #[.int .i64 s.start, .int .i64 s.width, .int .i64 s.clock, .bool s.stopped, .slice A rs.length c, .int .i64 s.skipped, .int .i64 s.late]] w
      fun e w' => ∃ g' c', e = .returned (.tuple #[.agg #[.int .i64 s.start, .int .i64 s.width, .int .i64 s.clock, .bool true, .slice (some ⟨g', 0, none⟩) rs.length c', .int .i64 s.skipped, .int .i64 s.late], .bool (Ak.fails s)]) ∧
        Out w w' base (.slice A rs.length c) (Ak.rend s rs 3) (.slice (some ⟨g', 0, none⟩) rs.length c') := by
  have hbl : Below w.heap.size w ((w.alloc (.cells #[.int .i64 s.start, .int .i64 s.width, .int .i64 s.clock, .bool s.stopped, .slice A rs.length c, .int .i64 s.skipped, .int .i64 s.late] 61)).alloc (.cells #[.int .i64 0, .int .i64 0, .int .i64 0, .bool false, .slice none 0 0, .int .i64 0, .int .i64 0] 61)) := ((Below.refl _ _).alloc (Nat.le_refl _) _).alloc (by simp) _
  have HR := Lib.hid (hr.on_ hbl)
  have HB := Lib.hid hbl
  have H0 : Hid (Has ((w.alloc (.cells #[.int .i64 s.start, .int .i64 s.width, .int .i64 s.clock, .bool s.stopped, .slice A rs.length c, .int .i64 s.skipped, .int .i64 s.late] 61)).alloc (.cells #[.int .i64 0, .int .i64 0, .int .i64 0, .bool false, .slice none 0 0, .int .i64 0, .int .i64 0] 61)) w.heap.size 61 #[.int .i64 s.start, .int .i64 s.width, .int .i64 s.clock, .bool s.stopped, .slice A rs.length c, .int .i64 s.skipped, .int .i64 s.late]) := Lib.hid ((Has.made _ _ _).alloc _)
  have H1 : Hid (Has ((w.alloc (.cells #[.int .i64 s.start, .int .i64 s.width, .int .i64 s.clock, .bool s.stopped, .slice A rs.length c, .int .i64 s.skipped, .int .i64 s.late] 61)).alloc (.cells #[.int .i64 0, .int .i64 0, .int .i64 0, .bool false, .slice none 0 0, .int .i64 0, .int .i64 0] 61)) (w.heap.size + 1) 61 #[.int .i64 0, .int .i64 0, .int .i64 0, .bool false, .slice none 0 0, .int .i64 0, .int .i64 0]) := Lib.hid (bmade_at _ _ (by simp))
  have HF := Lib.hid hf
  have hd : decide (0 < s.opn) = Ak.fails s := by
    unfold Ak.fails
    rcases (show s.opn = 0 ∨ 0 < s.opn by omega) with h | h
    · simp [h]
    · rw [decide_eq_true h, decide_eq_false (by omega)]; rfl
  clear hbl hr hf h0
  obtain ⟨q, hq⟩ : ∃ q, Ak.fails s = q := ⟨_, rfl⟩
  rw [hq] at hd ⊢
  clear hq
  go_enter Try.func37, Try.ntmps37
  go_wp2_with fail
  refine (ropen_any HR.out HF.out hl).mono ?_
  rintro e w2 ⟨rfl, hb2⟩
  have HR2 := Lib.hid (HR.out.on_ hb2)
  have H02 := Lib.hid (H0.out.below hb2 (Has.lt H0.out))
  have H12 := Lib.hid (H1.out.below hb2 (Has.lt H1.out))
  have HB2 := Lib.hid (HB.out.trans (hb2.mono HB.out.size))
  have c2 := H02.out.cell
  clear hb2
  go_wp2_with fail
  refine (rend_any 3 HR2.out HF.out hl).mono ?_
  rintro e w3 ⟨g', c', rfl, hr3, hb3⟩
  have hz : w.heap.size + 1 + 1 ≤ w2.heap.size := Nat.succ_le_of_lt (Has.lt H12.out)
  have hg3 := (hr3.own.lt g' (by simp [Value.ownBlock])).1
  have hb03 := HB2.out.trans (hb3.mono HB2.out.size)
  have hp3 : Has w3 w.heap.size 61 _ := H02.out.below hb3 (Has.lt H02.out)
  have hq3 : Has w3 (w.heap.size + 1) 61 _ := H12.out.below hb3 (Has.lt H12.out)
  have cp := hp3.cell
  have fp := hp3.free
  go_upto_region 3 with fail
  clear cp fp
  obtain ⟨W4, hW4⟩ : ∃ W4, W4 = set7 w3 w.heap.size (.int .i64 s.start) (.int .i64 s.width) (.int .i64 s.clock) (.bool s.stopped) (.slice (some ⟨g', 0, none⟩) rs.length c') (.int .i64 s.skipped) (.int .i64 s.late) := ⟨_, rfl⟩
  have hp4 : Has W4 w.heap.size 61 _ := hW4 ▸ Has.here7 _ _ _ _ _ _ _ hp3
  have hq4 : Has W4 (w.heap.size + 1) 61 _ := hW4 ▸ Has.there7 _ _ _ _ _ _ _ hq3 (by omega)
  have hr4 : Row W4 w2.heap.size (Ak.rend s rs 3) _ := hW4 ▸ hr3.set7_ _ _ _ _ _ _ _ (by simp [Value.ownBlock]; omega)
  have hb4 : Below w.heap.size w W4 := hW4 ▸ below7 _ _ _ _ _ _ _ hb03 (Nat.le_refl _)
  unfold set7 at hW4
  rw [← hW4]
  have HR4 := Lib.hid hr4
  have HB4 := Lib.hid hb4
  have cp := hp4.cell
  have fp := hp4.free
  have cq := hq4.cell
  have fq := hq4.free
  clear hb3 hr3 c2 hp3 hq3 hp4 hq4 hr4 hb4 hb03 hW4
  go_wp2
  exact bodyPost_ret (v := .tuple #[.agg #[.int .i64 s.start, .int .i64 s.width, .int .i64 s.clock, .bool true, .slice (some ⟨g', 0, none⟩) rs.length c', .int .i64 s.skipped, .int .i64 s.late], .bool q]) (by simp [results, Try.results37, go_sem, cq]) rfl
    ⟨g', c', rfl, Out.new hb (Row.less (base := w2.heap.size) (by repeat (first | refine Row.set_ ?_ (by simp [Value.ownBlock]; omega) _ _ | exact HR4.out)) (by omega)) (by repeat (first | refine below_set ?_ _ _ _ (by omega) | exact HB4.out))⟩
end
end Go.Proofs.Ytdbknbgomcabbaa
