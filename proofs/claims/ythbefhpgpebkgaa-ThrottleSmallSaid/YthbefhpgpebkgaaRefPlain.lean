/- The reference's throttle as plain data: besides the throttle's own numbers it keeps the ticks of all handings over. No program is named here. Conditions: none. -/
import Derived.Test.YthbefhpgpebkgaaPlain
namespace Go.Proofs.Ythbefhpgpebkgaa.Thr

/-- hs: the ticks of all handings over, the last one last. -/
structure Rf (s : St Int) (hs : List Int) : Prop where
  tk : s.taken = hs.length
  hd : (hs = [] ∧ s.handed = false) ∨ ((∃ ys, hs = ys ++ [s.last]) ∧ s.handed = true)

def rtake (s : St Int) (hs : List Int) : List Int := if ready s then hs ++ [s.now] else hs

section
variable {s : St Int} {hs : List Int}
theorem Rf.fresh_ (n : Int) : Rf (fresh 0 n) [] := ⟨rfl, Or.inl ⟨rfl, rfl⟩⟩
theorem Rf.offer_ (h : Rf s hs) (x : Int) : Rf (offer s x) hs := ⟨h.tk, h.hd⟩
theorem Rf.clear_ (h : Rf s hs) : Rf (clear 0 s) hs := ⟨h.tk, h.hd⟩
theorem Rf.move_ (h : Rf s hs) (now : Int) : Rf (move s now) hs := by
  unfold move
  split
  · exact ⟨h.tk, h.hd⟩
  · exact h
theorem Rf.take_ (h : Rf s hs) : Rf (take 0 s) (rtake s hs) := by
  unfold take rtake
  rcases hr : ready s with _ | _
  · exact h
  · refine ⟨?_, Or.inr ⟨⟨hs, rfl⟩, rfl⟩⟩
    have := h.tk
    simp; omega
end

/-- One act: its kind, its number. -/
def astep (s : St Int) (x : Int × Int) : St Int :=
  if x.1 % 7 = 0 then move s (s.now + Int.tmod x.2 4096) else if x.1 % 7 = 1 then move s x.2 else if x.1 % 7 < 4 then offer s x.2 else if x.1 % 7 < 6 then take 0 s else clear 0 s

theorem Ok.astep_ {N : Int} {s : St Int} (h : Ok N s) (x : Int × Int) : Ok (N + 1) (astep s x) := by
  unfold astep
  split
  · exact (h.move _).more (by omega)
  split
  · exact (h.move _).more (by omega)
  split
  · exact h.offer _
  split
  · exact h.take _
  · exact h.clear _

theorem ready_iff {N : Int} {s : St Int} (h : Ok N s) (hw : s.waits = true) : ready s = (!s.handed || decide (s.width ≤ s.now - s.last)) := by
  obtain ⟨h0, h1, h2, h3, h4, h5, h6, h7, h8, h9, h10, h11⟩ := h
  rcases hh : s.handed with _ | _
  · simp [ready, nextAt, hw, hh]
  · have hm : decide (max s.now (s.last + s.width) = s.now) = decide (s.width ≤ s.now - s.last) := by
      rw [decide_eq_decide]
      omega
    simpa [ready, nextAt, hw, hh] using hm
end Go.Proofs.Ythbefhpgpebkgaa.Thr
