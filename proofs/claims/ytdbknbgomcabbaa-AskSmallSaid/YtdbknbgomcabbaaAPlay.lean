/- The steps of 'played' as plain data, and what holds after any number of them. No program is named here. Conditions: none. -/
import Derived.Test.YtdbknbgomcabbaaAPlain
namespace Go.Proofs.Ytdbknbgomcabbaa.Ak

/-- The Ask, and what happened: a request's number, a tick, whether it was answered. -/
structure Pl where
  st : St
  out : List (Int × Int × Bool)

/-- A step: ticks, a kind, whether an answer is good. -/
abbrev Step := Int × Int × Bool

def moved (p : Pl) (x : Step) : Pl :=
  ⟨move p.st (p.st.clock + x.1), if opens p.st (p.st.clock + x.1) then p.out ++ [((move p.st (p.st.clock + x.1)).opn, (move p.st (p.st.clock + x.1)).since, false)] else p.out⟩
def answered (p : Pl) (x : Step) : Pl :=
  if x.2.1 % 6 < 2 then ⟨answer p.st p.st.opn x.2.2, if 0 < p.st.opn then p.out ++ [(p.st.opn, p.st.clock, true)] else p.out⟩
  else if x.2.1 % 6 = 2 then ⟨answer p.st (p.st.opn - 1) x.2.2, p.out⟩
  else if x.2.1 % 6 = 3 then ⟨answer p.st (p.st.opn + 1) x.2.2, p.out⟩
  else p
def pstep (p : Pl) (x : Step) : Pl := answered (moved p x) x
def pstart (start width : Int) : Pl := ⟨fresh start width, [(1, start, false)]⟩
def after (start width : Int) (xs : List Step) : Pl := xs.foldl pstep (pstart start width)

def Fit (x : Step) : Prop := 0 ≤ x.1 ∧ x.1 ≤ 4294967295 ∧ 0 ≤ x.2.1 ∧ x.2.1 ≤ 255

theorem after_take_succ (start width : Int) (xs : List Step) (k : Nat) (h : k < xs.length) : after start width (xs.take (k + 1)) = pstep (after start width (xs.take k)) xs[k] := by
  unfold after
  rw [List.take_succ_eq_append_getElem h, List.foldl_append]
  rfl

def answers (l : List (Int × Int × Bool)) : Int := ((l.filter (·.2.2)).length : Nat)
def lates (l : List Step) : Int := ((l.filter fun x => decide (x.2.1 % 6 < 4)).length : Nat)

/-- What AskOnce keeps: the last request's number, since when, whether it waits for an answer; none where a rule is broken. -/
def check1 (start width : Int) (c : Int × Int × Bool) (x : Int × Int × Bool) : Option (Int × Int × Bool) :=
  if x.2.2 then (if !c.2.2 || x.1 != c.1 || decide (x.2.1 < c.2.1) then none else some (c.1, c.2.1, false))
  else (if x.1 != c.1 + 1 || decide (x.2.1 ≤ c.2.1) || (x.2.1 - start) % width != 0 then none else some (x.1, x.2.1, true))
def check (start width : Int) (l : List (Int × Int × Bool)) : Option (Int × Int × Bool) := l.foldlM (check1 start width) (0, -1, false)

/-- What holds after some steps: N bounds the counters, lt is how many answers were tried, T bounds the clock. -/
structure Good (start width N lt T : Int) (p : Pl) : Prop where
  ok : Ok N p.st
  stp : p.st.stopped = false
  start_ : p.st.start = start
  width_ : p.st.width = width
  clk : p.st.clock ≤ T
  one : 1 ≤ p.st.asked
  op : (p.st.opn = 0 ∧ p.st.since = 0) ∨ (p.st.opn = p.st.asked ∧ p.st.since = start + due p.st p.st.clock * width)
  s1 : p.st.asked = p.st.good + p.st.bad + p.st.failed + (if p.st.opn = 0 then 0 else 1)
  s2 : p.st.asked + p.st.skipped = 1 + due p.st p.st.clock
  s3 : p.st.good + p.st.bad = answers p.out
  s4 : p.st.late = lt - answers p.out
  ev : ∃ ls, check start width p.out = some (p.st.asked, ls, !decide (p.st.opn = 0)) ∧ ls ≤ start + due p.st p.st.clock * width ∧ ls ≤ p.st.clock ∧ (p.st.opn ≠ 0 → ls = p.st.since)
  len : (p.out.length : Int) ≤ N
  rng : ∀ x ∈ p.out, 0 ≤ x.1 ∧ x.1 ≤ N ∧ 0 ≤ x.2.1 ∧ x.2.1 ≤ 281474976710656

theorem answers_snoc (l : List (Int × Int × Bool)) (x : Int × Int × Bool) : answers (l ++ [x]) = answers l + (if x.2.2 then 1 else 0) := by
  unfold answers
  rw [List.filter_append]
  cases h : x.2.2 <;> simp [h]
theorem lates_snoc (l : List Step) (x : Step) : lates (l ++ [x]) = lates l + (if x.2.1 % 6 < 4 then 1 else 0) := by
  unfold lates
  rw [List.filter_append]
  by_cases h : x.2.1 % 6 < 4 <;> simp [h]
theorem check_snoc (start width : Int) (l : List (Int × Int × Bool)) (x : Int × Int × Bool) : check start width (l ++ [x]) = (check start width l).bind fun c => check1 start width c x := by
  unfold check
  rw [List.foldlM_append]
  simp

theorem good_start (start width : Int) (h0 : 0 ≤ start) (h1 : start ≤ 4294967295) (h2 : 1 ≤ width) (h3 : width ≤ 4294967296) : Good start width 1 0 start (pstart start width) := by
  have hd : dueOf start width start = 0 := by unfold dueOf; rw [Int.sub_self]; exact Int.zero_ediv _
  refine ⟨Ok.fresh_ h0 (by omega) h2 (by omega) (by omega), rfl, rfl, rfl, ?_, ?_, ?_, ?_, ?_, ?_, ?_, ?_, ?_, ?_⟩
  · simp [pstart, fresh]
  · simp [pstart, fresh]
  · right
    refine ⟨rfl, ?_⟩
    show start = start + dueOf start width start * width
    simp [hd]
  · simp [pstart, fresh]
  · show (1 : Int) + 0 = 1 + dueOf start width start
    simp [hd]
  · rfl
  · rfl
  · refine ⟨start, ?_, ?_, Int.le_refl _, fun _ => rfl⟩
    · show check start width [(1, start, false)] = _
      unfold check
      simp [check1, pstart, fresh]
      omega
    · show start ≤ start + dueOf start width start * width
      simp [hd]
  · simp [pstart]
  · intro x hx
    simp [pstart] at hx
    subst hx
    simp; omega

theorem move_fit {start width N lt T : Int} {p : Pl} (h : Good start width N lt T p) (hT : T ≤ 200000000000000) {x : Step} (hx : Fit x) : moveOk p.st (p.st.clock + x.1) = true := by
  have := h.clk
  obtain ⟨a, b, _, _⟩ := hx
  unfold moveOk
  rw [decide_eq_false (by omega), decide_eq_false (by omega)]
  rfl

/-- Numbers on the way of a move: how many due ticks there are up to the clock, and up to now. -/
theorem dues {start width N lt T : Int} {p : Pl} (h : Good start width N lt T p) {t : Int} (ht : 0 ≤ t) :
    0 ≤ dueOf start width p.st.clock ∧ dueOf start width p.st.clock * width ≤ p.st.clock - start ∧ dueOf start width p.st.clock ≤ dueOf start width (p.st.clock + t) ∧
    dueOf start width (p.st.clock + t) * width ≤ p.st.clock + t - start ∧
    (dueOf start width p.st.clock < dueOf start width (p.st.clock + t) → dueOf start width p.st.clock * width + width ≤ dueOf start width (p.st.clock + t) * width ∧ p.st.clock < start + dueOf start width (p.st.clock + t) * width) := by
  have hw : 1 ≤ width := h.width_ ▸ h.ok.w1
  have hc : start ≤ p.st.clock := h.start_ ▸ h.ok.c0
  have a := due_spec hw hc
  have b := due_spec hw (show start ≤ p.st.clock + t by omega)
  have m := due_mono hw (show p.st.clock ≤ p.st.clock + t by omega) (start := start)
  refine ⟨a.1, a.2.2.2.1, m, b.2.2.2.1, fun hlt => ?_⟩
  have e : (dueOf start width p.st.clock + 1) * width ≤ dueOf start width (p.st.clock + t) * width := Int.mul_le_mul_of_nonneg_right (by omega) (by omega)
  rw [Int.add_mul, Int.one_mul] at e
  have := a.2.2.2.2
  exact ⟨e, by omega⟩

theorem opens_iff {start width N lt T : Int} {p : Pl} (h : Good start width N lt T p) {t : Int} (hm : moveOk p.st (p.st.clock + t) = true) :
    opens p.st (p.st.clock + t) = !decide (dueOf start width (p.st.clock + t) - dueOf start width p.st.clock = 0) := by
  unfold opens steps due
  rw [hm, h.stp, h.start_, h.width_]
  simp

/-- The play, its clock moved. -/
theorem good_moved {start width N lt T : Int} {p : Pl} (h : Good start width N lt T p) (hT : T ≤ 200000000000000) {x : Step} (hx : Fit x) : Good start width (N + 1) lt (T + x.1) (moved p x) := by
  have hm := move_fit h hT hx
  have hok := h.ok.move_ (p.st.clock + x.1)
  have ho := opens_iff h hm
  obtain ⟨d1, d2, d3, d4, d5⟩ := dues h hx.1
  obtain ⟨ok, stp, st, wd, clk, one, op, s1, s2, s3, s4, ⟨ls, e1, e2, e3, e4⟩, len, rng⟩ := h
  have hx0 := hx.1
  have hx1 := hx.2.1
  have ds : ∀ q, due p.st q = dueOf start width q := fun q => by unfold due; rw [st, wd]
  rw [ds] at s2 e2
  have sp := due_spec (wd ▸ ok.w1) (st ▸ ok.c0 : start ≤ p.st.clock)
  have hst : 0 ≤ start := st ▸ ok.s0
  rcases hop : opens p.st (p.st.clock + x.1) with _ | _
  · have hd : dueOf start width (p.st.clock + x.1) = dueOf start width p.st.clock := by
      rw [hop] at ho
      simp at ho
      omega
    have e : moved p x = ⟨{ p.st with clock := p.st.clock + x.1 }, p.out⟩ := by unfold moved move; rw [hm, hop]; rfl
    rw [e]
    have e' : move p.st (p.st.clock + x.1) = { p.st with clock := p.st.clock + x.1 } := by unfold move; rw [hm, hop]; rfl
    rw [e'] at hok
    have dn : due { p.st with clock := p.st.clock + x.1 } (p.st.clock + x.1) = dueOf start width (p.st.clock + x.1) := ds _
    refine ⟨hok, stp, st, wd, by dsimp only; omega, one, ?_, s1, ?_, s3, s4, ⟨ls, e1, ?_, ?_, e4⟩, by dsimp only; omega, fun y hy => by have := rng y hy; omega⟩
    · dsimp only
      rw [dn, hd]
      rcases op with op | ⟨o1, o2⟩
      · exact .inl op
      · exact .inr ⟨o1, by rw [o2, ds]⟩
    · dsimp only
      rw [dn, hd]; exact s2
    · dsimp only
      rw [dn, hd]; exact e2
    · dsimp only
      omega
  · have hd : dueOf start width p.st.clock < dueOf start width (p.st.clock + x.1) := by
      rw [hop] at ho
      simp at ho
      omega
    obtain ⟨d6, d7⟩ := d5 hd
    have e' : move p.st (p.st.clock + x.1) = opened p.st (p.st.clock + x.1) := by unfold move; rw [hm, hop]; rfl
    have e : moved p x = ⟨opened p.st (p.st.clock + x.1), p.out ++ [(p.st.asked + 1, start + dueOf start width (p.st.clock + x.1) * width, false)]⟩ := by
      unfold moved
      rw [e', hop, if_pos rfl]
      show Pl.mk _ (_ ++ [(p.st.asked + 1, p.st.start + due p.st (p.st.clock + x.1) * p.st.width, false)]) = _
      rw [ds, st, wd]
    rw [e]
    rw [e'] at hok
    have dn : due (opened p.st (p.st.clock + x.1)) (opened p.st (p.st.clock + x.1)).clock = dueOf start width (p.st.clock + x.1) := ds _
    have hsi : (opened p.st (p.st.clock + x.1)).since = start + dueOf start width (p.st.clock + x.1) * width := by show p.st.start + due p.st (p.st.clock + x.1) * p.st.width = _; rw [ds, st, wd]
    have hne : ¬ p.st.asked + 1 = 0 := by omega
    have ha0 := ok.a1
    refine ⟨hok, stp, st, wd, by show p.st.clock + x.1 ≤ _; omega, by show 1 ≤ p.st.asked + 1; omega, .inr ⟨rfl, by rw [hsi, dn]⟩, ?_, ?_, ?_, ?_, ⟨start + dueOf start width (p.st.clock + x.1) * width, ?_, ?_, ?_, fun _ => hsi.symm⟩, ?_, ?_⟩
    · show p.st.asked + 1 = p.st.good + p.st.bad + (if p.st.opn = 0 then p.st.failed else p.st.failed + 1) + (if p.st.asked + 1 = 0 then 0 else 1)
      rw [if_neg hne]
      split at s1 <;> simp_all <;> omega
    · rw [dn]
      show p.st.asked + 1 + (p.st.skipped + (due p.st (p.st.clock + x.1) - due p.st p.st.clock - 1)) = _
      rw [ds, ds]; omega
    · show p.st.good + p.st.bad = answers (p.out ++ [_])
      rw [answers_snoc]
      simpa using s3
    · show p.st.late = lt - answers (p.out ++ [_])
      rw [answers_snoc]
      simpa using s4
    · dsimp only
      rw [check_snoc, e1]
      have q1 : (p.st.asked + 1 != p.st.asked + 1) = false := by simp
      have q2 : decide (start + dueOf start width (p.st.clock + x.1) * width ≤ ls) = false := decide_eq_false (by omega)
      have q3 : ((start + dueOf start width (p.st.clock + x.1) * width - start) % width != 0) = false := by
        rw [show start + dueOf start width (p.st.clock + x.1) * width - start = dueOf start width (p.st.clock + x.1) * width by omega, Int.mul_emod_left]
        rfl
      have q4 : (opened p.st (p.st.clock + x.1)).opn = p.st.asked + 1 := rfl
      have q5 : (opened p.st (p.st.clock + x.1)).asked = p.st.asked + 1 := rfl
      simp only [Option.bind_some, check1, q1, q2, q3, q4, q5, Bool.or_false, Bool.false_eq_true, if_false, decide_eq_false hne, Bool.not_false]
    · dsimp only
      rw [dn]; exact Int.le_refl _
    · show _ ≤ p.st.clock + x.1
      omega
    · simp; omega
    · intro y hy
      simp only [List.mem_append, List.mem_singleton] at hy
      rcases hy with hy | rfl
      · have := rng y hy; omega
      · dsimp only; omega

theorem answer_due (s : St) (n : Int) (g : Bool) (q : Int) : due (answer s n g) q = due s q := by unfold answer; split <;> rfl
theorem answer_clock (s : St) (n : Int) (g : Bool) : (answer s n g).clock = s.clock := by unfold answer; split <;> rfl

/-- The play, an answer to another number tried. -/
theorem good_late {start width N lt T : Int} {p : Pl} (h : Good start width N lt T p) {n : Int} {g : Bool} (ht : takes p.st n = false) : Good start width (N + 1) (lt + 1) T ⟨answer p.st n g, p.out⟩ := by
  have hok := h.ok.answer_ n g
  have e : answer p.st n g = { p.st with late := p.st.late + 1 } := by unfold answer; rw [ht]; rfl
  rw [e] at hok ⊢
  obtain ⟨ok, stp, st, wd, clk, one, op, s1, s2, s3, s4, ev, len, rng⟩ := h
  exact ⟨hok, stp, st, wd, clk, one, op, s1, s2, s3, by show p.st.late + 1 = lt + 1 - answers p.out; omega, ev, by dsimp only; omega, fun y hy => by have := rng y hy; omega⟩

/-- The play, the open request answered. -/
theorem good_answer {start width N lt T : Int} {p : Pl} (h : Good start width N lt T p) {g : Bool} (ho : 0 < p.st.opn) : Good start width (N + 1) (lt + 1) T ⟨answer p.st p.st.opn g, p.out ++ [(p.st.opn, p.st.clock, true)]⟩ := by
  have ht : takes p.st p.st.opn = true := by unfold takes; rw [decide_eq_true rfl, decide_eq_true ho]; rfl
  have hok := h.ok.answer_ p.st.opn g
  have e : answer p.st p.st.opn g = { p.st with good := (if g then p.st.good + 1 else p.st.good), bad := (if g then p.st.bad else p.st.bad + 1), opn := 0, since := 0 } := by unfold answer; rw [ht]; rfl
  rw [e] at hok ⊢
  obtain ⟨ok, stp, st, wd, clk, one, op, s1, s2, s3, s4, ⟨ls, e1, e2, e3, e4⟩, len, rng⟩ := h
  have hne : p.st.opn ≠ 0 := by omega
  rw [if_neg hne] at s1
  have hls := e4 hne
  have hc0 := ok.c0
  have hc1 := ok.c1
  have hs0 := ok.s0
  have ho1 := ok.o1
  have ha1 := ok.a1
  have hop : p.st.opn = p.st.asked := op.elim (fun q => absurd q.1 hne) (fun q => q.1)
  refine ⟨hok, stp, st, wd, clk, one, .inl ⟨rfl, rfl⟩, ?_, s2, ?_, ?_, ⟨ls, ?_, e2, e3, fun h => absurd rfl h⟩, ?_, ?_⟩
  · show p.st.asked = (if g then p.st.good + 1 else p.st.good) + (if g then p.st.bad else p.st.bad + 1) + p.st.failed + (if (0 : Int) = 0 then 0 else 1)
    cases g <;> simp <;> omega
  · show (if g then p.st.good + 1 else p.st.good) + (if g then p.st.bad else p.st.bad + 1) = answers (p.out ++ [_])
    rw [answers_snoc]
    cases g <;> simp <;> omega
  · show p.st.late = lt + 1 - answers (p.out ++ [_])
    rw [answers_snoc]
    simp
    omega
  · show check start width (p.out ++ [_]) = some (p.st.asked, ls, !decide ((0 : Int) = 0))
    rw [check_snoc, e1]
    have q1 : (p.st.opn != p.st.asked) = false := by simp [hop]
    have q2 : decide (p.st.clock < ls) = false := decide_eq_false (by omega)
    simp only [Option.bind_some, check1, q1, q2, decide_eq_false hne, Bool.not_false, Bool.not_true, Bool.or_false, Bool.false_eq_true, if_true, if_false, decide_true]
  · show ((p.out ++ [_]).length : Int) ≤ N + 1
    simp; omega
  · intro y hy
    simp only [List.mem_append, List.mem_singleton] at hy
    rcases hy with hy | rfl
    · have := rng y hy; omega
    · dsimp only; omega

theorem good_answered {start width N lt T : Int} {p : Pl} (h : Good start width N lt T p) (x : Step) : Good start width (N + 1) (lt + (if x.2.1 % 6 < 4 then 1 else 0)) T (answered p x) := by
  have ho0 := h.ok.o0
  unfold answered
  by_cases h1 : x.2.1 % 6 < 2
  · rw [if_pos h1, if_pos (by omega)]
    by_cases ho : 0 < p.st.opn
    · rw [if_pos ho]; exact good_answer h ho
    · rw [if_neg ho]
      exact good_late h (by unfold takes; rw [decide_eq_false ho, Bool.and_false])
  · rw [if_neg h1]
    have hne : ∀ n, n ≠ p.st.opn → takes p.st n = false := fun n hn => by unfold takes; rw [decide_eq_false hn]; rfl
    by_cases h2 : x.2.1 % 6 = 2
    · rw [if_pos h2, if_pos (by omega)]
      exact good_late h (hne _ (by omega))
    · rw [if_neg h2]
      by_cases h3 : x.2.1 % 6 = 3
      · rw [if_pos h3, if_pos (by omega)]
        exact good_late h (hne _ (by omega))
      · rw [if_neg h3]
        split
        · omega
        · rw [Int.add_zero]
          obtain ⟨ok, stp, st, wd, clk, one, op, s1, s2, s3, s4, ev, len, rng⟩ := h
          exact ⟨ok.more (by omega), stp, st, wd, clk, one, op, s1, s2, s3, s4, ev, by omega, fun y hy => by have := rng y hy; omega⟩

theorem good_step {start width N lt T : Int} {p : Pl} (h : Good start width N lt T p) (hT : T ≤ 200000000000000) {x : Step} (hx : Fit x) : Good start width (N + 2) (lt + (if x.2.1 % 6 < 4 then 1 else 0)) (T + 4294967295) (pstep p x) := by
  have h1 := good_answered (good_moved h hT hx) x
  obtain ⟨ok, stp, st, wd, clk, one, op, s1, s2, s3, s4, ev, len, rng⟩ := h1
  have := hx.2.1
  exact ⟨ok.more (by omega), stp, st, wd, by show (pstep p x).st.clock ≤ _; unfold pstep; omega, one, op, s1, s2, s3, s4, ev, by show ((pstep p x).out.length : Int) ≤ _; unfold pstep; omega, fun y hy => by have := rng y hy; omega⟩

theorem good_after (start width : Int) (h0 : 0 ≤ start) (h1 : start ≤ 4294967295) (h2 : 1 ≤ width) (h3 : width ≤ 4294967296) (xs : List Step) (hx : ∀ x ∈ xs, Fit x) :
    ∀ k, k ≤ xs.length → k ≤ 150 → Good start width (1 + 2 * (k : Int)) (lates (xs.take k)) (start + 4294967295 * (k : Int)) (after start width (xs.take k))
  | 0, _, _ => by
    have := good_start start width h0 h1 h2 h3
    simpa [after, lates] using this
  | k + 1, hk, hk2 => by
    have h := good_after start width h0 h1 h2 h3 xs hx k (by omega) (by omega)
    have hs := good_step h (by omega) (hx _ (List.getElem_mem (show k < xs.length by omega)))
    rw [after_take_succ start width xs k (by omega)]
    rw [List.take_succ_eq_append_getElem (by omega), lates_snoc]
    have e1 : (1 + 2 * (k : Int) + 2) = 1 + 2 * ((k + 1 : Nat) : Int) := by omega
    have e2 : start + 4294967295 * (k : Int) + 4294967295 = start + 4294967295 * ((k + 1 : Nat) : Int) := by omega
    rw [e1, e2] at hs
    exact hs

theorem ans_open {p : Pl} {tk kd : Int} {g : Bool} (h : kd % 6 < 2) (ho : 0 < p.st.opn) : answered p (tk, kd, g) = ⟨answer p.st p.st.opn g, p.out ++ [(p.st.opn, p.st.clock, true)]⟩ := by
  unfold answered; rw [if_pos h, if_pos ho]
theorem ans_none {p : Pl} {tk kd : Int} {g : Bool} (h : kd % 6 < 2) (ho : ¬ 0 < p.st.opn) : answered p (tk, kd, g) = ⟨answer p.st p.st.opn g, p.out⟩ := by
  unfold answered; rw [if_pos h, if_neg ho]
theorem ans_two {p : Pl} {tk kd : Int} {g : Bool} (h : kd % 6 = 2) : answered p (tk, kd, g) = ⟨answer p.st (p.st.opn - 1) g, p.out⟩ := by
  unfold answered; rw [if_neg (by dsimp only; omega), if_pos h]
theorem ans_three {p : Pl} {tk kd : Int} {g : Bool} (h : kd % 6 = 3) : answered p (tk, kd, g) = ⟨answer p.st (p.st.opn + 1) g, p.out⟩ := by
  unfold answered; rw [if_neg (by dsimp only; omega), if_neg (by dsimp only; omega), if_pos h]
theorem ans_else {p : Pl} {tk kd : Int} {g : Bool} (h : 3 < kd % 6) : answered p (tk, kd, g) = p := by
  unfold answered; rw [if_neg (by dsimp only; omega), if_neg (by dsimp only; omega), if_neg (by dsimp only; omega)]
end Go.Proofs.Ytdbknbgomcabbaa.Ak
