/- The reference's Answer, walked; and its Move and Answer, each in one contract. Conditions: the reference's state in memory, numbers in bounds. -/
import Derived.Test.YtdbknbgomcabbaaBFn3
namespace Go.Proofs.Ytdbknbgomcabbaa
open Go.RowKit

section
variable {base : Nat} {s : Ak.St} {rs : List Ak.Req} {w : World} {A : Option Addr} {c m : Nat} {N : Int} {hv : Value}

set_option maxHeartbeats 8000000 in
theorem ranswer_late (n : Int) (good : Bool) (hr : Row w base rs (.slice A rs.length c)) (hf : Ak.Rf s rs) (hl : rs.length ≤ 1000000) (hk : Ak.Ok N s) (hN : N ≤ 1000000000) (ht : Ak.takes s n = false) :
    Calls Try.prog 36 #[.agg #[.int .i64 s.start, .int .i64 s.width, .int .i64 s.clock, .bool s.stopped, .slice A rs.length c, .int .i64 s.skipped, .int .i64 s.late], .int .i64 n, .bool good] w
      fun e w' => e = .returned (.tuple #[.agg #[.int .i64 s.start, .int .i64 s.width, .int .i64 s.clock, .bool s.stopped, .slice A rs.length c, .int .i64 s.skipped, .int .i64 (s.late + 1)], .bool false]) ∧ Below w.heap.size w w' := by
  have HB := Lib.hid (Bz.start w s (.slice A rs.length c))
  have HC := Lib.hid (ropen_any (hr.on_ (((Below.refl _ _).alloc (Nat.le_refl _) (.cells #[.int .i64 s.start, .int .i64 s.width, .int .i64 s.clock, .bool s.stopped, .slice A rs.length c, .int .i64 s.skipped, .int .i64 s.late] 61)).alloc (by simp) (.cells #[.int .i64 0, .int .i64 0, .int .i64 0, .bool false, .slice none 0 0, .int .i64 0, .int .i64 0] 61))) hf hl)
  have l0 := hk.l0
  have l1 := hk.l1
  have g1 : IntKind.i64.wrap (s.late + 1) = s.late + 1 := IntWalk.i64_in _ (by omega)
  clear hr hf hk
  rcases (show n < 1 ∨ 1 ≤ n by omega) with h | h
  · have d1 : decide (n < 1) = true := decide_eq_true h
    clear h ht HC l0 l1
    go_enter Try.func36, Try.ntmps36
    go_wp2
    exact bodyPost_ret (v := .tuple #[.agg #[.int .i64 s.start, .int .i64 s.width, .int .i64 s.clock, .bool s.stopped, .slice A rs.length c, .int .i64 s.skipped, .int .i64 (s.late + 1)], .bool false]) (by simp [results, Try.results36, go_sem]) rfl
      ⟨rfl, by first | exact ((Below.refl _ _).alloc (Nat.le_refl _) _).alloc (by simp) _ | exact below7 _ _ _ _ _ _ _ (below_set HB.out.below _ _ _ (Nat.le_refl _)) (Nat.le_succ _)⟩
  · have d1 : decide (n < 1) = false := decide_eq_false (by omega)
    have d2 : (n != s.opn) = true := by
      simp only [Ak.takes, Bool.and_eq_false_iff, decide_eq_false_iff_not] at ht
      simp; omega
    generalize s.opn = o at *
    clear h ht l0 l1
    go_enter Try.func36, Try.ntmps36
    go_wp2_with fail
    refine HC.out.mono ?_
    rintro e w2 ⟨rfl, hb2⟩
    have HB2 := Lib.hid (HB.out.on hb2)
    obtain ⟨cp, fp, cq, fq⟩ := HB2.out.all
    clear hb2
    go_wp2
    exact bodyPost_ret (v := .tuple #[.agg #[.int .i64 s.start, .int .i64 s.width, .int .i64 s.clock, .bool s.stopped, .slice A rs.length c, .int .i64 s.skipped, .int .i64 (s.late + 1)], .bool false]) (by simp [results, Try.results36, go_sem, cq]) rfl
      ⟨rfl, below7 _ _ _ _ _ _ _ (below_set HB2.out.below _ _ _ (Nat.le_refl _)) (Nat.le_succ _)⟩

set_option maxRecDepth 100000 in
set_option maxHeartbeats 8000000 in
theorem ranswer_takes (n how : Int) (good : Bool) (hh : how = if good then 1 else 2) (hr : Row w base rs (.slice A rs.length c)) (hf : Ak.Rf s rs) (hl : rs.length ≤ 1000000) (hb : base ≤ w.heap.size) (ht : Ak.takes s n = true) :
    Calls Try.prog 36 #[.agg #[.int .i64 s.start, .int .i64 s.width, .int .i64 s.clock, .bool s.stopped, .slice A rs.length c, .int .i64 s.skipped, .int .i64 s.late], .int .i64 n, .bool good] w
      fun e w' => ∃ g' c', e = .returned (.tuple #[.agg #[.int .i64 s.start, .int .i64 s.width, .int .i64 s.clock, .bool s.stopped, .slice (some ⟨g', 0, none⟩) rs.length c', .int .i64 s.skipped, .int .i64 s.late], .bool true]) ∧
        Out w w' base (.slice A rs.length c) (Ak.rend s rs how) (.slice (some ⟨g', 0, none⟩) rs.length c') := by
  have HB := Lib.hid (Bz.start w s (.slice A rs.length c))
  have HR := Lib.hid (hr.on_ (((Below.refl _ _).alloc (Nat.le_refl _) (.cells #[.int .i64 s.start, .int .i64 s.width, .int .i64 s.clock, .bool s.stopped, .slice A rs.length c, .int .i64 s.skipped, .int .i64 s.late] 61)).alloc (by simp) (.cells #[.int .i64 0, .int .i64 0, .int .i64 0, .bool false, .slice none 0 0, .int .i64 0, .int .i64 0] 61)))
  have HC := Lib.hid (ropen_any HR.out hf hl)
  have HE : Hid (∀ how (w : World) (base : Nat) (A : Option Addr) (c : Nat), Row w base rs (.slice A rs.length c) → Calls Try.prog 39 #[.agg #[.int .i64 s.start, .int .i64 s.width, .int .i64 s.clock, .bool s.stopped, .slice A rs.length c, .int .i64 s.skipped, .int .i64 s.late], .int .i64 how] w
      fun e w' => ∃ g' c', e = .returned (.agg #[.int .i64 s.start, .int .i64 s.width, .int .i64 s.clock, .bool s.stopped, .slice (some ⟨g', 0, none⟩) rs.length c', .int .i64 s.skipped, .int .i64 s.late]) ∧
        Row w' w.heap.size (Ak.rend s rs how) (.slice (some ⟨g', 0, none⟩) rs.length c') ∧ Below w.heap.size w w') := Lib.hid fun how w base A c hrow => rend_any how hrow hf hl
  simp only [Ak.takes, Bool.and_eq_true, decide_eq_true_eq] at ht
  obtain ⟨ho, h0⟩ := ht
  have d1 : decide (n < 1) = false := decide_eq_false (by omega)
  rw [← ho] at HC
  clear hr hf ho
  rcases good with _ | _
  all_goals
    simp only [if_true, if_false, Bool.false_eq_true] at hh
    subst hh
    go_enter Try.func36, Try.ntmps36
    go_wp2_with fail
    refine HC.out.mono ?_
    rintro e w2 ⟨rfl, hb2⟩
    have HB2 := Lib.hid (HB.out.on hb2)
    have HR2 := Lib.hid (HR.out.on_ hb2)
    obtain ⟨cp, fp, -, -⟩ := HB2.out.all
    clear hb2
    go_wp2_with fail
    refine (HE.out _ _ _ _ _ HR2.out).mono ?_
    rintro e w3 ⟨g', c', rfl, hr3, hb3⟩
    have hz : w.heap.size + 1 < w2.heap.size := Has.lt HB2.out.r
    have hg3 := (hr3.own.lt g' (by simp [Value.ownBlock])).1
    have HB3 := Lib.hid (HB2.out.on hb3)
    have HR3 := Lib.hid hr3
    obtain ⟨-, -, cq, fq⟩ := HB3.out.all
    clear hr3 hb3 cp fp
    go_wp2
    exact bodyPost_ret (v := .tuple #[.agg #[.int .i64 s.start, .int .i64 s.width, .int .i64 s.clock, .bool s.stopped, .slice (some ⟨g', 0, none⟩) rs.length c', .int .i64 s.skipped, .int .i64 s.late], .bool true]) (by simp [results, Try.results36, go_sem, cq]) rfl
      ⟨g', c', rfl, Out.new hb (Row.less (base := w2.heap.size) (Row.set7_ _ _ _ _ _ _ _ HR3.out (by simp [Value.ownBlock]; omega)) (by omega)) (below7 _ _ _ _ _ _ _ HB3.out.below (Nat.le_succ _))⟩

/-- Whatever is asked: the state that the plain step makes, its slice. -/
theorem rmove_any (now f x : Int) (s1 : Ak.St) (rs1 : List Ak.Req) (h1 : Ak.move s now = s1) (h2 : Ak.rmove s rs now = rs1) (h3 : Ak.moveErr s now = f) (h4 : Ak.number s now = x)
    (hr : Row w base rs (.slice A rs.length c)) (hf : Ak.Rf s rs) (hl : rs.length ≤ 1000000) (hb : base ≤ w.heap.size) (hk : Ak.Ok N s) :
    Calls Try.prog 35 #[.agg #[.int .i64 s.start, .int .i64 s.width, .int .i64 s.clock, .bool s.stopped, .slice A rs.length c, .int .i64 s.skipped, .int .i64 s.late], .int .i64 now] w
      fun e w' => ∃ A' c', e = .returned (.tuple #[.agg #[.int .i64 s1.start, .int .i64 s1.width, .int .i64 s1.clock, .bool s1.stopped, .slice A' rs1.length c', .int .i64 s1.skipped, .int .i64 s1.late], .int .i64 x, .int .i64 f]) ∧
        Out w w' base (.slice A rs.length c) rs1 (.slice A' rs1.length c') := by
  subst h1 h2 h3 h4
  unfold Ak.move Ak.rmove Ak.moveErr Ak.number
  rcases hm : Ak.moveOk s now with _ | _
  · have ho : Ak.opens s now = false := by unfold Ak.opens; rw [hm]; rfl
    simp only [ho, if_false, Bool.false_eq_true]
    exact (rmove_bad now hm).mono fun _ _ ⟨he, k⟩ => ⟨A, c, he, Out.same hr k⟩
  · rcases ho : Ak.opens s now with _ | _
    · simp only [if_false, if_true, Bool.false_eq_true]
      exact (rmove_stay now hk hm ho).mono fun _ _ ⟨he, k⟩ => ⟨A, c, he, Out.same hr k⟩
    · simp only [if_true]
      have hlen : (Ak.rend s rs 3 ++ [(s.start + Ak.due s now * s.width, (0 : Int))]).length = rs.length + 1 := by simp [Ak.rend_length hf 3]
      have ha : s.asked + 1 = ((rs.length + 1 : Nat) : Int) := by rw [hf.len]; omega
      rw [hlen, ha]
      exact (rmove_opens now hr hf hl hb hk hm ho).mono fun _ _ ⟨g', c', he, k⟩ => ⟨_, c', he, k⟩
theorem ranswer_any (n : Int) (good q : Bool) (s1 : Ak.St) (rs1 : List Ak.Req) (h1 : Ak.answer s n good = s1) (h2 : Ak.ranswer s rs n good = rs1) (h3 : Ak.takes s n = q)
    (hr : Row w base rs (.slice A rs.length c)) (hf : Ak.Rf s rs) (hl : rs.length ≤ 1000000) (hb : base ≤ w.heap.size) (hk : Ak.Ok N s) (hN : N ≤ 1000000000) :
    Calls Try.prog 36 #[.agg #[.int .i64 s.start, .int .i64 s.width, .int .i64 s.clock, .bool s.stopped, .slice A rs.length c, .int .i64 s.skipped, .int .i64 s.late], .int .i64 n, .bool good] w
      fun e w' => ∃ A' c', e = .returned (.tuple #[.agg #[.int .i64 s1.start, .int .i64 s1.width, .int .i64 s1.clock, .bool s1.stopped, .slice A' rs1.length c', .int .i64 s1.skipped, .int .i64 s1.late], .bool q]) ∧
        Out w w' base (.slice A rs.length c) rs1 (.slice A' rs1.length c') := by
  subst h1 h2 h3
  unfold Ak.answer Ak.ranswer
  rcases ht : Ak.takes s n with _ | _
  · simp only [if_false, Bool.false_eq_true]
    exact (ranswer_late n good hr hf hl hk hN ht).mono fun _ _ ⟨he, k⟩ => ⟨A, c, he, Out.same hr k⟩
  · simp only [if_true]
    rw [Ak.rend_length hf]
    exact (ranswer_takes n _ good rfl hr hf hl hb ht).mono fun _ _ ⟨g', c', he, k⟩ => ⟨_, c', he, k⟩
theorem rstop_run (q : Bool) (s1 : Ak.St) (rs1 : List Ak.Req) (h1 : Ak.stop s = s1) (h2 : Ak.rend s rs 3 = rs1) (h3 : Ak.fails s = q)
    (hr : Row w base rs (.slice A rs.length c)) (hf : Ak.Rf s rs) (hl : rs.length ≤ 1000000) (hb : base ≤ w.heap.size) (hk : Ak.Ok N s) :
    Calls Try.prog 37 #[.agg #[.int .i64 s.start, .int .i64 s.width, .int .i64 s.clock, .bool s.stopped, .slice A rs.length c, .int .i64 s.skipped, .int .i64 s.late]] w
      fun e w' => ∃ A' c', e = .returned (.tuple #[.agg #[.int .i64 s1.start, .int .i64 s1.width, .int .i64 s1.clock, .bool s1.stopped, .slice A' rs1.length c', .int .i64 s1.skipped, .int .i64 s1.late], .bool q]) ∧
        Out w w' base (.slice A rs.length c) rs1 (.slice A' rs1.length c') := by
  subst h1 h2 h3
  rw [Ak.rend_length hf]
  have e1 : (Ak.stop s).start = s.start ∧ (Ak.stop s).width = s.width ∧ (Ak.stop s).clock = s.clock ∧ (Ak.stop s).stopped = true ∧ (Ak.stop s).skipped = s.skipped ∧ (Ak.stop s).late = s.late := by
    unfold Ak.stop Ak.fail
    split <;> exact ⟨rfl, rfl, rfl, rfl, rfl, rfl⟩
  obtain ⟨e1, e2, e3, e4, e5, e6⟩ := e1
  rw [e1, e2, e3, e4, e5, e6]
  exact (rstop_any hr hf hl hb hk.o0).mono fun _ _ ⟨g', c', he, k⟩ => ⟨_, c', he, k⟩
end
end Go.Proofs.Ytdbknbgomcabbaa
