/- The reference's requests in memory: a row of the call's own, two cells a request. Conditions: none beyond each theorem's own premises. -/
import Derived.Test.YtdbknbgomcabbaaApp
import Derived.Test.YtdbknbgomcabbaaBPlain
import Derived.Laws.OwnMore
namespace Go.Proofs.Ytdbknbgomcabbaa
open Go.RowKit

def flat (rs : List Ak.Req) : List Value := rs.flatMap fun r => [.int .i64 r.1, .int .i64 r.2]
theorem flat_cons (r : Ak.Req) (rs : List Ak.Req) : flat (r :: rs) = .int .i64 r.1 :: .int .i64 r.2 :: flat rs := by simp [flat]
theorem flat_append (rs ss : List Ak.Req) : flat (rs ++ ss) = flat rs ++ flat ss := by simp [flat]
theorem flat_length (rs : List Ak.Req) : (flat rs).length = rs.length * 2 := by
  induction rs with
  | nil => rfl
  | cons r rs ih => rw [flat_cons]; simp [ih]; omega
theorem flat_at (rs : List Ak.Req) (k : Nat) (r : Ak.Req) (h : rs[k]? = some r) : (flat rs)[k * 2]? = some (.int .i64 r.1) ∧ (flat rs)[k * 2 + 1]? = some (.int .i64 r.2) := by
  induction rs generalizing k with
  | nil => simp at h
  | cons x rs ih =>
    rw [flat_cons]
    cases k with
    | zero => simp at h; subst h; simp
    | succ k =>
      have := ih k (by simpa using h)
      rw [show (k + 1) * 2 = k * 2 + 1 + 1 by omega]
      simpa using this
theorem flat_set (rs : List Ak.Req) (k : Nat) (a b c : Int) (h : rs[k]? = some (a, b)) : (flat rs).set (k * 2 + 1) (.int .i64 c) = flat (rs.set k (a, c)) := by
  induction rs generalizing k with
  | nil => simp at h
  | cons x rs ih =>
    rw [flat_cons]
    cases k with
    | zero => simp at h; subst h; simp [flat_cons]
    | succ k =>
      have := ih k (by simpa using h)
      rw [show (k + 1) * 2 + 1 = k * 2 + 1 + 1 + 1 by omega]
      simp only [List.set_cons_succ, flat_cons, this]
theorem flat_one (rs : List Ak.Req) : ∀ u ∈ flat rs, u.oneCell' = true := by
  intro u hu
  unfold flat at hu
  obtain ⟨r, -, hr⟩ := List.mem_flatMap.1 hu
  simp at hr
  rcases hr with rfl | rfl <;> rfl

/-- In world W the slice hv holds the requests rs, in a block of the call's own. -/
structure Row (W : World) (base : Nat) (rs : List Ak.Req) (hv : Value) : Prop where
  own : W.ownsRow base 70 2 hv rs.length (flat rs)
  pos : 0 < rs.length

section
variable {W W' : World} {base : Nat} {rs : List Ak.Req} {hv : Value}
theorem Row.shape (h : Row W base rs hv) : ∃ g cap, hv = .slice (some ⟨g, 0, none⟩) rs.length cap ∧ base ≤ g ∧ g < W.heap.size ∧ rs.length ≤ cap ∧ cap ≤ 9223372036854775807 := by
  obtain ⟨h1, h2⟩ := h.own
  rcases h2 with ⟨-, h3⟩ | ⟨g, cap, cur, e3, e4, e5, e6, e7, e8, e9⟩
  · have := h.pos; omega
  · exact ⟨g, cap, e3, e4, (Array.getElem?_eq_some_iff.1 e5).1, e6, by unfold maxLen at e7; omega⟩
theorem Row.at_ {g cap : Nat} (h : Row W base rs (.slice (some ⟨g, 0, none⟩) rs.length cap)) (k : Nat) (r : Ak.Req) (hr : rs[k]? = some r) :
    W.cell? ⟨g, k * 2, none⟩ = some (.int .i64 r.1) ∧ W.cell? ⟨g, k * 2 + 1, none⟩ = some (.int .i64 r.2) := by
  have hk := (List.getElem?_eq_some_iff.1 hr).1
  obtain ⟨h1, h2⟩ := flat_at rs k r hr
  exact ⟨(h.own.cellAt (k * 2) (by omega)).trans h1, (h.own.cellAt (k * 2 + 1) (by omega)).trans h2⟩
theorem Row.grown_ {g : Nat} (h : Row W base rs hv) (k : W.grownBy W' (some g)) (hg : g < base) : Row W' base rs hv := ⟨own_kept h.own k hg, h.pos⟩
theorem Row.on_ (h : Row W base rs hv) (k : Below W.heap.size W W') : Row W' base rs hv := ⟨own_kept_below h.own k, h.pos⟩
theorem Row.less {base' : Nat} (h : Row W base rs hv) (hb : base' ≤ base) : Row W base' rs hv := ⟨own_less h.own hb, h.pos⟩
theorem Row.apart (h : Row W base rs hv) {g : Nat} (hg : W.heap.size ≤ g) : hv.ownBlock ≠ some g := fun e => by have := (h.own.lt g e).2; omega
theorem Row.set_ (h : Row W base rs hv) {g : Nat} (ha : hv.ownBlock ≠ some g) (i : Nat) (u : Value) : Row (W.setCell ⟨g, i, none⟩ u) base rs hv :=
  ⟨h.own.kept (only_here (only_refl W _) i u) (Or.inr ha), h.pos⟩
end

/-- The slice hv' lies where hv lay, or in a block that w had not. -/
def Later (w : World) (hv hv' : Value) : Prop := ∀ g, g < w.heap.size → hv.ownBlock ≠ some g → hv'.ownBlock ≠ some g

/-- The reference's state as a block's cells. -/
def rcells (s : Ak.St) (hv : Value) : Array Value := #[.int .i64 s.start, .int .i64 s.width, .int .i64 s.clock, .bool s.stopped, hv, .int .i64 s.skipped, .int .i64 s.late]
end Go.Proofs.Ytdbknbgomcabbaa
