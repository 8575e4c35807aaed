/- The reference's requests as plain data, beside an Ask's numbers. No program is named here. Conditions: none. -/
import Derived.Test.YtdbknbgomcabbaaAPlain
namespace Go.Proofs.Ytdbknbgomcabbaa.Ak

/-- A request: since when, and what became of it. -/
abbrev Req := Int × Int
def cnt (k : Int) (rs : List Req) : Int := ((rs.filter fun r => r.2 == k).length : Nat)

theorem cnt_snoc (k : Int) (rs : List Req) (r : Req) : cnt k (rs ++ [r]) = cnt k rs + (if r.2 = k then 1 else 0) := by
  unfold cnt
  rw [List.filter_append]
  by_cases h : r.2 = k <;> simp [h]
theorem cnt_nil (k : Int) : cnt k [] = 0 := rfl
theorem cnt_le (k : Int) (rs : List Req) : 0 ≤ cnt k rs ∧ cnt k rs ≤ rs.length := by
  unfold cnt
  have := List.length_filter_le (fun r : Req => r.2 == k) rs
  omega
theorem cnt_take (k : Int) (rs : List Req) (i : Nat) (h : i < rs.length) : cnt k (rs.take (i + 1)) = cnt k (rs.take i) + (if (rs[i]).2 = k then 1 else 0) := by
  rw [List.take_succ_eq_append_getElem h, cnt_snoc]

/-- The requests rs are those of the Ask s. -/
structure Rf (s : St) (rs : List Req) : Prop where
  len : s.asked = rs.length
  op : (s.opn = 0 ∧ s.since = 0 ∧ ∀ r ∈ rs, r.2 ≠ 0) ∨ (∃ ys, rs = ys ++ [(s.since, 0)] ∧ s.opn = rs.length ∧ ∀ r ∈ ys, r.2 ≠ 0)
  g : s.good = cnt 1 rs
  b : s.bad = cnt 2 rs
  f : s.failed = cnt 3 rs

/-- The open request ends. -/
def rend (s : St) (rs : List Req) (how : Int) : List Req := if s.opn = 0 then rs else rs.dropLast ++ [(s.since, how)]
def rmove (s : St) (rs : List Req) (now : Int) : List Req := if opens s now then rend s rs 3 ++ [(s.start + due s now * s.width, 0)] else rs
def ranswer (s : St) (rs : List Req) (n : Int) (g : Bool) : List Req := if takes s n then rend s rs (if g then 1 else 2) else rs

section
variable {s : St} {rs : List Req}
theorem Rf.fresh_ (start width : Int) : Rf (fresh start width) [(start, 0)] :=
  ⟨rfl, Or.inr ⟨[], rfl, rfl, fun _ h => by cases h⟩, rfl, rfl, rfl⟩

/-- The first request that is open, if it is at i. -/
theorem Rf.here (h : Rf s rs) (i : Nat) (hi : i < rs.length) (h0 : (rs[i]).2 = 0) : s.opn = i + 1 := by
  rcases h.op with ⟨-, -, h3⟩ | ⟨ys, h1, h2, h3⟩
  · exact absurd h0 (h3 _ (List.getElem_mem hi))
  · subst h1
    have hl : (ys ++ [(s.since, (0 : Int))]).length = ys.length + 1 := by simp
    rcases (show i < ys.length ∨ i = ys.length by omega) with hlt | rfl
    · rw [List.getElem_append_left hlt] at h0
      exact absurd h0 (h3 _ (List.getElem_mem hlt))
    · rw [h2, hl]; omega
theorem Rf.none_ (h : Rf s rs) (hn : ∀ i, (hi : i < rs.length) → (rs[i]).2 ≠ 0) : s.opn = 0 := by
  rcases h.op with ⟨h1, -, -⟩ | ⟨ys, h1, h2, h3⟩
  · exact h1
  · subst h1
    have := hn ys.length (by simp)
    simp at this
theorem Rf.last_ (h : Rf s rs) (ho : s.opn ≠ 0) : ∃ k : Nat, rs.length = k + 1 ∧ s.opn = k + 1 ∧ rs[k]? = some (s.since, 0) ∧ ∀ how, rend s rs how = rs.set k (s.since, how) := by
  rcases h.op with ⟨h1, -, -⟩ | ⟨ys, h1, h2, h3⟩
  · exact absurd h1 ho
  · subst h1
    refine ⟨ys.length, by simp, by rw [h2]; simp, by simp, fun how => ?_⟩
    unfold rend
    rw [if_neg ho]
    simp
theorem rend_zero (ho : s.opn = 0) (how : Int) : rend s rs how = rs := by unfold rend; rw [if_pos ho]
theorem rend_length (h : Rf s rs) (how : Int) : (rend s rs how).length = rs.length := by
  by_cases ho : s.opn = 0
  · rw [rend_zero ho]
  · obtain ⟨k, h1, -, -, h4⟩ := h.last_ ho
    rw [h4]; simp

/-- What ends: the counts and that nothing is open. -/
theorem Rf.ends (h : Rf s rs) (ho : s.opn ≠ 0) (how : Int) (hh : how ≠ 0) : (∀ r ∈ rend s rs how, r.2 ≠ 0) ∧ ∀ k, k ≠ 0 → cnt k (rend s rs how) = cnt k rs + (if how = k then 1 else 0) := by
  rcases h.op with ⟨h1, -, -⟩ | ⟨ys, h1, h2, h3⟩
  · exact absurd h1 ho
  · unfold rend
    rw [if_neg ho]
    subst h1
    refine ⟨fun r hr => ?_, fun k hk => ?_⟩
    · simp at hr
      rcases hr with hr | hr
      · exact h3 _ hr
      · rw [hr]; exact hh
    · rw [List.dropLast_concat, cnt_snoc, cnt_snoc]
      dsimp only
      rw [if_neg (show ¬ (0 : Int) = k by omega)]
      omega

theorem Rf.fail_ (h : Rf s rs) : Rf (fail s) (rend s rs 3) := by
  unfold fail
  by_cases ho : s.opn = 0
  · rw [if_pos ho, rend_zero ho]; exact h
  · rw [if_neg ho]
    obtain ⟨h1, h2⟩ := h.ends ho 3 (by decide)
    refine ⟨by rw [rend_length h]; exact h.len, Or.inl ⟨rfl, rfl, h1⟩, ?_, ?_, ?_⟩
    · rw [h2 1 (by decide)]; simp; exact h.g
    · rw [h2 2 (by decide)]; simp; exact h.b
    · rw [h2 3 (by decide)]; simp; exact h.f
theorem Rf.stop_ (h : Rf s rs) : Rf (stop s) (rend s rs 3) := by
  have := h.fail_
  exact ⟨this.len, this.op, this.g, this.b, this.f⟩
theorem Rf.move_ (h : Rf s rs) (now : Int) : Rf (move s now) (rmove s rs now) := by
  unfold move rmove
  rcases hm : moveOk s now with _ | _
  · have : opens s now = false := by unfold opens; rw [hm]; rfl
    rw [this]; exact h
  · rcases hk : opens s now with _ | _
    · exact ⟨h.len, h.op, h.g, h.b, h.f⟩
    · have hf := h.fail_
      have hl := rend_length h 3
      have e1 : (fail s).failed = if s.opn = 0 then s.failed else s.failed + 1 := by unfold fail; split <;> rfl
      have e2 : (fail s).good = s.good := by unfold fail; split <;> rfl
      have e3 : (fail s).bad = s.bad := by unfold fail; split <;> rfl
      have e4 : (fail s).asked = s.asked := by unfold fail; split <;> rfl
      have e5 : ∀ r ∈ rend s rs 3, r.2 ≠ 0 := by
        by_cases ho : s.opn = 0
        · rw [rend_zero ho]
          rcases h.op with ⟨-, -, h3⟩ | ⟨ys, -, h2, -⟩
          · exact h3
          · intro r hr
            have : rs.length = 0 := by omega
            rw [List.length_eq_zero_iff.1 this] at hr
            cases hr
        · exact (h.ends ho 3 (by decide)).1
      have l1 := hf.len
      have l2 := hf.g
      have l3 := hf.b
      have l4 := hf.f
      simp only [if_true]
      refine ⟨?_, Or.inr ⟨_, rfl, ?_, e5⟩, ?_, ?_, ?_⟩
      · simp only [opened, List.length_append, List.length_singleton]; omega
      · simp only [opened, List.length_append, List.length_singleton]; omega
      · rw [cnt_snoc]; simp only [opened]; simp; omega
      · rw [cnt_snoc]; simp only [opened]; simp; omega
      · rw [cnt_snoc]; simp only [opened]; simp; omega
theorem Rf.answer_ (h : Rf s rs) (n : Int) (g : Bool) : Rf (answer s n g) (ranswer s rs n g) := by
  unfold answer ranswer
  rcases ht : takes s n with _ | _
  · exact ⟨h.len, h.op, h.g, h.b, h.f⟩
  · have ho : s.opn ≠ 0 := by
      simp only [takes, Bool.and_eq_true, decide_eq_true_eq] at ht
      omega
    simp only [if_true]
    cases g
    · obtain ⟨h1, h2⟩ := h.ends ho 2 (by decide)
      refine ⟨by rw [show (if false = true then (1 : Int) else 2) = 2 from rfl, rend_length h]; exact h.len, Or.inl ⟨rfl, rfl, h1⟩, ?_, ?_, ?_⟩
      · show s.good = cnt 1 (rend s rs 2); rw [h2 1 (by decide)]; simp; exact h.g
      · show s.bad + 1 = cnt 2 (rend s rs 2); rw [h2 2 (by decide)]; simp; exact h.b
      · show s.failed = cnt 3 (rend s rs 2); rw [h2 3 (by decide)]; simp; exact h.f
    · obtain ⟨h1, h2⟩ := h.ends ho 1 (by decide)
      refine ⟨by rw [show (if true = true then (1 : Int) else 2) = 1 from rfl, rend_length h]; exact h.len, Or.inl ⟨rfl, rfl, h1⟩, ?_, ?_, ?_⟩
      · show s.good + 1 = cnt 1 (rend s rs 1); rw [h2 1 (by decide)]; simp; exact h.g
      · show s.bad = cnt 2 (rend s rs 1); rw [h2 2 (by decide)]; simp; exact h.b
      · show s.failed = cnt 3 (rend s rs 1); rw [h2 3 (by decide)]; simp; exact h.f
end

/-- One act: its kind, its number, whether the answer is good. -/
def astep (s : St) (x : Int × Int × Bool) : St :=
  if x.1 % 6 = 0 then move s (s.clock + Int.tmod x.2.1 4096) else if x.1 % 6 = 1 then move s x.2.1 else if x.1 % 6 < 4 then answer s s.opn x.2.2 else if x.1 % 6 = 4 then answer s x.2.1 x.2.2
  else if x.2.1 % 2 = 0 then s else stop s
end Go.Proofs.Ytdbknbgomcabbaa.Ak
