/- The throttle as plain data: its state, and what each method makes of it. No program is named here. Conditions: none. -/
namespace Go.Proofs.Ythbefhpgpebkgaa.Thr

/-- A throttle's fields; v: what waits. -/
structure St (α : Type) where
  width : Int
  now : Int
  waits : Bool
  v : α
  handed : Bool
  last : Int
  offered : Int
  taken : Int
  lost : Int

section
variable {α : Type}

def fresh (z : α) (n : Int) : St α := ⟨n, 0, false, z, false, 0, 0, 0, 0⟩
def clear (z : α) (s : St α) : St α := { s with waits := false, v := (if s.waits then z else s.v), lost := (if s.waits then s.lost + 1 else s.lost) }
def offer (s : St α) (x : α) : St α := { s with waits := true, v := x, lost := (if s.waits then s.lost + 1 else s.lost), offered := s.offered + 1 }
def nextAt (s : St α) : Int := if s.waits then (if s.handed then max s.now (s.last + s.width) else s.now) else 0
def ready (s : St α) : Bool := s.waits && decide (nextAt s = s.now)
def take (z : α) (s : St α) : St α := if ready s then { s with waits := false, v := z, handed := true, last := s.now, taken := s.taken + 1 } else s
def taken (z : α) (s : St α) : α := if ready s then s.v else z
def moveOk (s : St α) (now : Int) : Bool := !(decide (now < s.now) || decide (281474976710656 < now))
def move (s : St α) (now : Int) : St α := if moveOk s now then { s with now := now } else s
def moveErr (s : St α) (now : Int) : Int := if moveOk s now then 0 else 310

/-- The numbers are in bounds, and no counter is above N. -/
structure Ok (N : Int) (s : St α) : Prop where
  w0 : 0 ≤ s.width
  w1 : s.width ≤ 1048576
  n0 : 0 ≤ s.now
  n1 : s.now ≤ 281474976710656
  l0 : 0 ≤ s.last
  l1 : s.last ≤ s.now
  o0 : 0 ≤ s.offered
  o1 : s.offered ≤ N
  t0 : 0 ≤ s.taken
  t1 : s.taken ≤ N
  x0 : 0 ≤ s.lost
  x1 : s.lost ≤ N

theorem Ok.fresh {z : α} {n N : Int} (h0 : 0 ≤ n) (h1 : n ≤ 1048576) (hN : 0 ≤ N) : Ok N (fresh z n) := by
  constructor <;> simp [Thr.fresh] <;> omega
theorem Ok.more {N M : Int} {s : St α} (h : Ok N s) (hM : N ≤ M) : Ok M s :=
  ⟨h.w0, h.w1, h.n0, h.n1, h.l0, h.l1, h.o0, by have := h.o1; omega, h.t0, by have := h.t1; omega, h.x0, by have := h.x1; omega⟩
theorem Ok.clear {N : Int} {s : St α} (h : Ok N s) (z : α) : Ok (N + 1) (clear z s) := by
  obtain ⟨h0, h1, h2, h3, h4, h5, h6, h7, h8, h9, h10, h11⟩ := h
  constructor <;> simp [Thr.clear] <;> (try split) <;> omega
theorem Ok.offer {N : Int} {s : St α} (h : Ok N s) (x : α) : Ok (N + 1) (offer s x) := by
  obtain ⟨h0, h1, h2, h3, h4, h5, h6, h7, h8, h9, h10, h11⟩ := h
  constructor <;> simp [Thr.offer] <;> (try split) <;> omega
theorem Ok.take {N : Int} {s : St α} (h : Ok N s) (z : α) : Ok (N + 1) (take z s) := by
  unfold Thr.take
  split
  · obtain ⟨h0, h1, h2, h3, h4, h5, h6, h7, h8, h9, h10, h11⟩ := h
    constructor <;> simp <;> omega
  · exact h.more (by omega)
theorem Ok.move {N : Int} {s : St α} (h : Ok N s) (now : Int) : Ok N (move s now) := by
  unfold Thr.move
  split
  · rename_i hk
    simp only [moveOk, Bool.not_eq_true', Bool.or_eq_false_iff, decide_eq_false_iff_not] at hk
    obtain ⟨h0, h1, h2, h3, h4, h5, h6, h7, h8, h9, h10, h11⟩ := h
    constructor <;> simp <;> omega
  · exact h
end
end Go.Proofs.Ythbefhpgpebkgaa.Thr
