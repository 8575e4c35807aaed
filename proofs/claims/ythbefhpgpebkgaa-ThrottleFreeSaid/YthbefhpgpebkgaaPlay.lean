/- The steps of 'played' as plain data, and what holds after any number of them. No program is named here. Conditions: none. -/
import Derived.Test.YthbefhpgpebkgaaPlain
namespace Go.Proofs.Ythbefhpgpebkgaa.Thr

/-- The throttle, and what was handed over: value, tick, how many had been offered. -/
structure Pl where
  st : St Int
  out : List (Int × Int × Int)

def offers (kind : Int) : Bool := decide (kind % 8 < 2) || decide (kind % 8 = 4)
def takes (kind : Int) : Bool := decide (2 ≤ kind % 8) && decide (kind % 8 ≤ 4)

/-- One step: the ticks go by; an offer; an attempt to take. -/
def afterMove (p : Pl) (x : Int × Int) : St Int := move p.st (p.st.now + x.1)
def afterOffer (p : Pl) (x : Int × Int) : St Int := if offers x.2 then offer (afterMove p x) (afterMove p x).offered else afterMove p x
def pstep (p : Pl) (x : Int × Int) : Pl :=
  let s := afterOffer p x
  if takes x.2 then ⟨take 0 s, if ready s then p.out ++ [(s.v, s.now, s.offered)] else p.out⟩ else ⟨s, p.out⟩

def pstart (n : Int) : Pl := ⟨fresh 0 n, []⟩
def after (n : Int) (xs : List (Int × Int)) : Pl := xs.foldl pstep (pstart n)

/-- Ticks and kinds are such numbers as their types hold. -/
def Fit (x : Int × Int) : Prop := 0 ≤ x.1 ∧ x.1 ≤ 65535 ∧ 0 ≤ x.2 ∧ x.2 ≤ 255

theorem after_take_succ (n : Int) (xs : List (Int × Int)) (k : Nat) (h : k < xs.length) : after n (xs.take (k + 1)) = pstep (after n (xs.take k)) xs[k] := by
  unfold after
  rw [List.take_succ_eq_append_getElem h, List.foldl_append]
  rfl

/-- What holds of a play after k steps. -/
structure Good (n : Int) (k : Nat) (p : Pl) : Prop where
  ok : Ok k p.st
  wid : p.st.width = n
  now : p.st.now ≤ 65535 * k
  wait : p.st.waits = true → p.st.v = p.st.offered - 1
  len : p.st.taken = p.out.length
  sum : p.st.offered = p.st.taken + p.st.lost + (if p.st.waits then 1 else 0)
  each : ∀ x ∈ p.out, x.1 = x.2.2 - 1 ∧ x.1 < p.st.offered ∧ (p.st.waits = true → x.1 < p.st.v)
  pairs : ∀ i, (h : i + 1 < p.out.length) → n ≤ p.out[i + 1].2.1 - p.out[i].2.1 ∧ p.out[i].1 < p.out[i + 1].1
  hand : p.st.handed = true → ∃ h : 0 < p.out.length, (p.out[p.out.length - 1]'(by omega)).2.1 = p.st.last
  none_ : p.st.handed = false → p.out = []
  rng : ∀ x ∈ p.out, 0 ≤ x.1 ∧ x.1 ≤ 1000000 ∧ 0 ≤ x.2.1 ∧ x.2.1 ≤ p.st.now ∧ 0 ≤ x.2.2 ∧ x.2.2 ≤ 1000000

theorem move_fit {n : Int} {k : Nat} {p : Pl} (h : Good n k p) (hk : k ≤ 200) {x : Int × Int} (hx : Fit x) : moveOk p.st (p.st.now + x.1) = true := by
  have := h.now; have := h.ok.n0; obtain ⟨a, b, _, _⟩ := hx
  simp [moveOk]; omega
theorem afterMove_eq {n : Int} {k : Nat} {p : Pl} (h : Good n k p) (hk : k ≤ 200) {x : Int × Int} (hx : Fit x) : afterMove p x = { p.st with now := p.st.now + x.1 } := by
  unfold afterMove move; rw [if_pos (move_fit h hk hx)]

theorem good_start (n : Int) (h0 : 0 ≤ n) (h1 : n ≤ 1048576) : Good n 0 (pstart n) := by
  refine ⟨Ok.fresh h0 h1 (by simp), rfl, by simp [pstart, fresh], ?_, rfl, rfl, ?_, ?_, ?_, ?_, ?_⟩ <;> simp [pstart, fresh]

/-- The play with the throttle moved and, where the step offers, offered to. -/
theorem good_offer {n : Int} {k : Nat} {p : Pl} (h : Good n k p) (hk : k ≤ 200) {x : Int × Int} (hx : Fit x) : Good n (k + 1) ⟨afterOffer p x, p.out⟩ := by
  have hm := afterMove_eq h hk hx
  obtain ⟨hx0, hx1, hx2, hx3⟩ := hx
  obtain ⟨ok, wid, now, wait, len, sum, each, pairs, hand, none_, rng⟩ := h
  obtain ⟨h0, h1, h2, h3, h4, h5, h6, h7, h8, h9, h10, h11⟩ := ok
  unfold afterOffer
  rw [hm]
  by_cases ho : offers x.2 = true
  · rw [if_pos ho]
    refine ⟨?_, ?_, ?_, ?_, ?_, ?_, ?_, ?_, ?_, ?_, ?_⟩
    · constructor <;> simp [offer] <;> (try split) <;> omega
    · simpa [offer] using wid
    · simp [offer]; omega
    · simp [offer]
    · simpa [offer] using len
    · simp only [offer]
      cases hw : p.st.waits <;> simp [hw] at sum ⊢ <;> omega
    · intro y hy
      have := each y hy
      simp [offer]; omega
    · exact pairs
    · exact hand
    · exact none_
    · intro y hy
      have := rng y hy
      simp [offer]; omega
  · rw [if_neg ho]
    refine ⟨?_, wid, ?_, wait, len, sum, each, pairs, hand, none_, ?_⟩
    · constructor <;> simp <;> omega
    · simp; omega
    · intro y hy
      have := rng y hy
      simp; omega

theorem good_step {n : Int} {k : Nat} {p : Pl} (h : Good n k p) (hk : k ≤ 200) {x : Int × Int} (hx : Fit x) : Good n (k + 1) (pstep p x) := by
  have hg := good_offer h hk hx
  unfold pstep
  dsimp only
  generalize afterOffer p x = s at hg ⊢
  by_cases ht : takes x.2 = true
  · rw [if_pos ht]
    unfold take
    by_cases hr : ready s = true
    · rw [if_pos hr, if_pos hr]
      obtain ⟨ok, wid, now, wait, len, sum, each, pairs, hand, none_, rng⟩ := hg
      obtain ⟨h0, h1, h2, h3, h4, h5, h6, h7, h8, h9, h10, h11⟩ := ok
      dsimp only at *
      have hw : s.waits = true := by simp [ready] at hr; exact hr.1
      have hn : nextAt s = s.now := by simp [ready] at hr; exact hr.2
      simp only [hw, if_true] at sum
      have hv := wait hw
      refine ⟨?_, wid, ?_, ?_, ?_, ?_, ?_, ?_, ?_, ?_, ?_⟩
      · constructor <;> simp <;> omega
      · simpa using now
      · simp
      · simp; omega
      · simp; omega
      · intro y hy
        simp only [List.mem_append, List.mem_singleton] at hy
        rcases hy with hy | rfl
        · have := each y hy; simp; omega
        · simp; omega
      · intro i hi
        simp only [List.length_append, List.length_singleton] at hi
        by_cases hl : i + 1 < p.out.length
        · have := pairs i hl
          simpa [List.getElem_append, hl, (by omega : i < p.out.length)] using this
        · have hi' : i + 1 = p.out.length := by omega
          have hh : s.handed = true := by
            rcases hb : s.handed with _ | _
            · have := none_ hb
              rw [this] at hi'; simp at hi'
            · rfl
          obtain ⟨hpos, hlast⟩ := hand hh
          have hnx : nextAt s = max s.now (s.last + s.width) := by simp [nextAt, hw, hh]
          have e1 : (p.out ++ [(s.v, s.now, s.offered)])[i + 1]'(by simp; omega) = (s.v, s.now, s.offered) := by
            rw [List.getElem_append_right (by omega)]; simp [hi']
          have e2 : (p.out ++ [(s.v, s.now, s.offered)])[i]'(by simp; omega) = p.out[p.out.length - 1]'(by omega) := by
            rw [List.getElem_append_left (by omega)]
            congr 1
            omega
          have hea := each (p.out[p.out.length - 1]'(by omega)) (List.getElem_mem _)
          have hv2 := hea.2.2 hw
          dsimp only
          rw [e1, e2, hlast]
          refine ⟨?_, hv2⟩
          dsimp only
          omega
      · intro _
        refine ⟨by simp, ?_⟩
        simp
      · simp
      · intro y hy
        simp only [List.mem_append, List.mem_singleton] at hy
        rcases hy with hy | rfl
        · have := rng y hy; simpa using this
        · simp; omega
    · rw [if_neg hr, if_neg hr]
      exact hg
  · rw [if_neg ht]
    exact hg

theorem good_after (n : Int) (h0 : 0 ≤ n) (h1 : n ≤ 1048576) (xs : List (Int × Int)) (hx : ∀ x ∈ xs, Fit x) : ∀ k, k ≤ xs.length → k ≤ 200 → Good n k (after n (xs.take k))
  | 0, _, _ => by simpa [after] using good_start n h0 h1
  | k + 1, hk, h2 => by
    rw [after_take_succ n xs k (by omega)]
    exact good_step (good_after n h0 h1 xs hx k (by omega) (by omega)) (by omega) (hx _ (List.getElem_mem _))

theorem moved_now {n : Int} {k : Nat} {p : Pl} (h : Good n k p) (hk : k ≤ 200) {tk kd : Int} (hx : Fit (tk, kd)) : (move p.st (p.st.now + tk)).now = p.st.now + tk := by
  unfold move; rw [if_pos (move_fit h hk hx)]
theorem moved_off (s : St Int) (t : Int) : (move s t).offered = s.offered := by unfold move; split <;> rfl
theorem p_no {p : Pl} {tk kd : Int} (ho : offers kd = false) (ht : takes kd = false) : pstep p (tk, kd) = ⟨move p.st (p.st.now + tk), p.out⟩ := by
  simp [pstep, afterOffer, afterMove, ho, ht]
theorem p_offer {p : Pl} {tk kd : Int} (ho : offers kd = true) (ht : takes kd = false) : pstep p (tk, kd) = ⟨offer (move p.st (p.st.now + tk)) p.st.offered, p.out⟩ := by
  simp [pstep, afterOffer, afterMove, ho, ht, moved_off]
theorem p_take {p : Pl} {tk kd : Int} (ho : offers kd = false) (ht : takes kd = true) :
    pstep p (tk, kd) = ⟨take 0 (move p.st (p.st.now + tk)), if ready (move p.st (p.st.now + tk)) then p.out ++ [((move p.st (p.st.now + tk)).v, (move p.st (p.st.now + tk)).now, p.st.offered)] else p.out⟩ := by
  simp [pstep, afterOffer, afterMove, ho, ht, moved_off]
theorem p_both {p : Pl} {tk kd : Int} (ho : offers kd = true) (ht : takes kd = true) :
    pstep p (tk, kd) = ⟨take 0 (offer (move p.st (p.st.now + tk)) p.st.offered), if ready (offer (move p.st (p.st.now + tk)) p.st.offered) then p.out ++ [(p.st.offered, (move p.st (p.st.now + tk)).now, p.st.offered + 1)] else p.out⟩ := by
  unfold pstep afterOffer afterMove
  dsimp only
  rw [if_pos ht, if_pos ho, moved_off]
  have e : (offer (move p.st (p.st.now + tk)) p.st.offered).offered = p.st.offered + 1 := by simp only [offer, moved_off]
  rw [e]
  rfl
theorem take_now (s : St Int) : (take 0 s).now = s.now := by unfold take; split <;> rfl
theorem take_off (s : St Int) : (take 0 s).offered = s.offered := by unfold take; split <;> rfl
theorem offer_now (s : St Int) (x : Int) : (offer s x).now = s.now := rfl
theorem offer_off (s : St Int) (x : Int) : (offer s x).offered = s.offered + 1 := rfl
end Go.Proofs.Ythbefhpgpebkgaa.Thr
