/- An Ask as plain data: its state, and what each method makes of it. No program is named here. Conditions: none. -/
namespace Go.Proofs.Ytdbknbgomcabbaa.Ak

structure St where
  asked : Int
  good : Int
  bad : Int
  failed : Int
  skipped : Int
  late : Int
  stopped : Bool
  start : Int
  width : Int
  clock : Int
  opn : Int
  since : Int

def fresh (start width : Int) : St := ⟨1, 0, 0, 0, 0, 0, false, start, width, start, 1, start⟩
def dueOf (start width now : Int) : Int := (now - start) / width
def due (s : St) (now : Int) : Int := dueOf s.start s.width now
def fails (s : St) : Bool := !decide (s.opn = 0)
def fail (s : St) : St := if s.opn = 0 then s else { s with opn := 0, since := 0, failed := s.failed + 1 }
def moveOk (s : St) (now : Int) : Bool := !(decide (now < s.clock) || decide (281474976710656 < now))
def steps (s : St) (now : Int) : Int := due s now - due s s.clock
def opens (s : St) (now : Int) : Bool := moveOk s now && (!decide (steps s now = 0) && !s.stopped)
/-- The next request is opened: the state whose clock has moved, an open request failed. -/
def opened (s : St) (now : Int) : St :=
  { s with clock := now, failed := (if s.opn = 0 then s.failed else s.failed + 1), asked := s.asked + 1, skipped := s.skipped + (steps s now - 1), opn := s.asked + 1, since := s.start + due s now * s.width }
def move (s : St) (now : Int) : St := if moveOk s now then (if opens s now then opened s now else { s with clock := now }) else s
def moveErr (s : St) (now : Int) : Int := if moveOk s now then 0 else 320
def number (s : St) (now : Int) : Int := if opens s now then s.asked + 1 else 0
def takes (s : St) (n : Int) : Bool := decide (n = s.opn) && decide (0 < n)
def answer (s : St) (n : Int) (g : Bool) : St :=
  if takes s n then { s with good := (if g then s.good + 1 else s.good), bad := (if g then s.bad else s.bad + 1), opn := 0, since := 0 } else { s with late := s.late + 1 }
def stop (s : St) : St := { fail s with stopped := true }
def nextAt (s : St) : Int := if s.stopped then 0 else s.start + (due s s.clock + 1) * s.width
def hasNext (s : St) : Bool := !(decide (nextAt s = 0) || decide (281474976710656 < nextAt s))
def next (s : St) : Int := if hasNext s then nextAt s else 0

/-- The numbers are in bounds, and no counter but that of skipped ticks is above N. -/
structure Ok (N : Int) (s : St) : Prop where
  a0 : 0 ≤ s.asked
  a1 : s.asked ≤ N
  g0 : 0 ≤ s.good
  g1 : s.good ≤ N
  b0 : 0 ≤ s.bad
  b1 : s.bad ≤ N
  f0 : 0 ≤ s.failed
  f1 : s.failed ≤ N
  l0 : 0 ≤ s.late
  l1 : s.late ≤ N
  s0 : 0 ≤ s.start
  w1 : 1 ≤ s.width
  w2 : s.width ≤ 1099511627776
  c0 : s.start ≤ s.clock
  c1 : s.clock ≤ 281474976710656
  k0 : 0 ≤ s.skipped
  k1 : s.skipped ≤ due s s.clock
  o0 : 0 ≤ s.opn
  o1 : s.opn ≤ s.asked

/-- What a quotient of ticks is. -/
theorem due_spec {start width now : Int} (hw : 1 ≤ width) (hn : start ≤ now) : 0 ≤ dueOf start width now ∧ dueOf start width now ≤ now - start ∧ 0 ≤ dueOf start width now * width ∧ dueOf start width now * width ≤ now - start ∧ now - start < dueOf start width now * width + width := by
  unfold dueOf
  have h0 : 0 ≤ (now - start) / width := Int.ediv_nonneg (by omega) (by omega)
  have h1 := Int.ediv_mul_le (now - start) (show width ≠ 0 by omega)
  have h2 := Int.lt_ediv_add_one_mul_self (now - start) (show 0 < width by omega)
  have h3 : (now - start) / width ≤ (now - start) / width * width := by
    have := Int.mul_le_mul_of_nonneg_left hw h0
    omega
  have h4 : ((now - start) / width + 1) * width = (now - start) / width * width + width := by rw [Int.add_mul, Int.one_mul]
  have h5 : 0 ≤ (now - start) / width * width := Int.mul_nonneg h0 (by omega)
  exact ⟨h0, by omega, h5, h1, by omega⟩
theorem due_mono {start width a b : Int} (hw : 1 ≤ width) (hab : a ≤ b) : dueOf start width a ≤ dueOf start width b := by
  unfold dueOf
  exact Int.ediv_le_ediv (by omega) (by omega)

theorem Ok.due0 {N : Int} {s : St} (h : Ok N s) : 0 ≤ due s s.clock ∧ due s s.clock ≤ 281474976710656 := by
  have := due_spec h.w1 h.c0
  have h1 := h.c1
  have h2 := h.s0
  unfold due
  omega

theorem Ok.fresh_ {start width N : Int} (h0 : 0 ≤ start) (h1 : start ≤ 281474976710656) (h2 : 1 ≤ width) (h3 : width ≤ 1099511627776) (hN : 1 ≤ N) : Ok N (fresh start width) := by
  have hd := (due_spec h2 (Int.le_refl start)).1
  constructor <;> simp [fresh] <;> first | omega | exact hd
theorem Ok.more {N M : Int} {s : St} (h : Ok N s) (hM : N ≤ M) : Ok M s := by
  obtain ⟨h1, h2, h3, h4, h5, h6, h7, h8, h9, h10, h11, h12, h13, h14, h15, h16, h17, h18, h19⟩ := h
  constructor <;> first | assumption | omega
theorem Ok.fail_ {N : Int} {s : St} (h : Ok N s) : Ok (N + 1) (fail s) := by
  unfold fail
  split
  · exact h.more (by omega)
  · obtain ⟨h1, h2, h3, h4, h5, h6, h7, h8, h9, h10, h11, h12, h13, h14, h15, h16, h17, h18, h19⟩ := h
    constructor <;> dsimp only <;> first | assumption | omega
theorem Ok.stop_ {N : Int} {s : St} (h : Ok N s) : Ok (N + 1) (stop s) := by
  have h' := h.fail_
  unfold stop
  obtain ⟨h1, h2, h3, h4, h5, h6, h7, h8, h9, h10, h11, h12, h13, h14, h15, h16, h17, h18, h19⟩ := h'
  exact ⟨h1, h2, h3, h4, h5, h6, h7, h8, h9, h10, h11, h12, h13, h14, h15, h16, h17, h18, h19⟩
theorem Ok.answer_ {N : Int} {s : St} (h : Ok N s) (n : Int) (g : Bool) : Ok (N + 1) (answer s n g) := by
  unfold answer
  obtain ⟨h1, h2, h3, h4, h5, h6, h7, h8, h9, h10, h11, h12, h13, h14, h15, h16, h17, h18, h19⟩ := h
  split
  · cases g
    all_goals
      constructor <;> simp <;> first | assumption | omega
  · constructor <;> dsimp only <;> first | assumption | omega
theorem Ok.opened_ {N : Int} {s : St} (h : Ok N s) {now : Int} (hm : moveOk s now = true) (hk : opens s now = true) : Ok (N + 1) (opened s now) := by
  simp only [moveOk, Bool.not_eq_true', Bool.or_eq_false_iff, decide_eq_false_iff_not] at hm
  have hk' : steps s now ≠ 0 := by
    simp only [opens, Bool.and_eq_true, Bool.not_eq_true', decide_eq_false_iff_not] at hk
    exact hk.2.1
  have hmono : due s s.clock ≤ due s now := due_mono h.w1 (by omega)
  have hd : due (opened s now) (opened s now).clock = due s now := rfl
  obtain ⟨h1, h2, h3, h4, h5, h6, h7, h8, h9, h10, h11, h12, h13, h14, h15, h16, h17, h18, h19⟩ := h
  have e : steps s now = due s now - due s s.clock := rfl
  constructor
  case k1 => rw [hd]; simp only [opened]; omega
  all_goals simp only [opened]
  case f0 => split <;> omega
  case f1 => split <;> omega
  all_goals first | assumption | omega
theorem Ok.move_ {N : Int} {s : St} (h : Ok N s) (now : Int) : Ok (N + 1) (move s now) := by
  unfold move
  split
  · rename_i hm
    split
    · rename_i hk
      exact h.opened_ hm hk
    · simp only [moveOk, Bool.not_eq_true', Bool.or_eq_false_iff, decide_eq_false_iff_not] at hm
      have hmono : due s s.clock ≤ due s now := due_mono h.w1 (by omega)
      have hd : due { s with clock := now } now = due s now := rfl
      obtain ⟨h1, h2, h3, h4, h5, h6, h7, h8, h9, h10, h11, h12, h13, h14, h15, h16, h17, h18, h19⟩ := h
      constructor
      case k1 => show s.skipped ≤ due { s with clock := now } now; rw [hd]; omega
      all_goals dsimp only
      all_goals first | assumption | omega
  · exact h.more (by omega)
end Go.Proofs.Ytdbknbgomcabbaa.Ak
