/- The reference's state in memory: what waits is a slice of one number or nil, the ticks of the handings over are a row of the call's own. Conditions: none beyond each theorem's own premises. -/
import Derived.Test.YthbefhpgpebkgaaMem
import Derived.Test.YthbefhpgpebkgaaRefPlain
namespace Go.Proofs.Ythbefhpgpebkgaa
open Go.RowKit

/-- What waits, as the reference has it. -/
def Wait (W : World) (base : Nat) (s : Thr.St Int) (wv : Value) : Prop :=
  (s.waits = false ∧ wv = .slice none 0 0) ∨ (s.waits = true ∧ ∃ g, base ≤ g ∧ wv = .slice (some ⟨g, 0, none⟩) 1 1 ∧ Has W g 3 #[.int .i64 s.v])

/-- In world W the values wv, hv are the reference's two slices. -/
structure Ref (W : World) (base : Nat) (s : Thr.St Int) (hs : List Int) (wv hv : Value) : Prop where
  wait : Wait W base s wv
  own : W.ownsRow base 3 1 hv hs.length (hs.map (Value.int .i64))
  nil_ : hs = [] → hv = .slice none 0 0
  rf : Thr.Rf s hs

/-- Neither slice lies in block g. -/
def Apart (wv hv : Value) (g : Nat) : Prop := wv.ownBlock ≠ some g ∧ hv.ownBlock ≠ some g
/-- The slices wv', hv' lie where wv, hv lay, or in blocks that w had not. -/
def Later (w : World) (wv hv wv' hv' : Value) : Prop := ∀ g, g < w.heap.size → Apart wv hv g → Apart wv' hv' g

/-- The reference's state as a value, and as a block's cells. -/
def rcells (s : Thr.St Int) (wv hv : Value) : Array Value := #[.int .i64 s.width, .int .i64 s.now, wv, hv, .int .i64 s.offered, .int .i64 s.lost]

section
variable {W W' : World} {base : Nat} {s : Thr.St Int} {hs : List Int} {wv hv : Value}
theorem Wait.grown_ {g : Nat} (h : Wait W base s wv) (k : W.grownBy W' (some g)) (hg : g < base) : Wait W' base s wv := by
  rcases h with h | ⟨h1, b, h2, h3, h4⟩
  · exact Or.inl h
  · exact Or.inr ⟨h1, b, h2, h3, h4.grown k (fun e => by injection e with e; omega)⟩
theorem Wait.on_ (h : Wait W base s wv) (k : Below W.heap.size W W') : Wait W' base s wv := by
  rcases h with h | ⟨h1, b, h2, h3, h4⟩
  · exact Or.inl h
  · exact Or.inr ⟨h1, b, h2, h3, h4.below k (Has.lt h4)⟩
theorem Ref.grown_ {g : Nat} (h : Ref W base s hs wv hv) (k : W.grownBy W' (some g)) (hg : g < base) : Ref W' base s hs wv hv := ⟨h.wait.grown_ k hg, own_kept h.own k hg, h.nil_, h.rf⟩
theorem Ref.on_ (h : Ref W base s hs wv hv) (k : Below W.heap.size W W') : Ref W' base s hs wv hv := ⟨h.wait.on_ k, own_kept_below h.own k, h.nil_, h.rf⟩
/-- What the walk asks of the row: no handing over yet, or the last one's cell. -/
theorem Ref.last_ (h : Ref W base s hs wv hv) : (s.handed = false ∧ hs = [] ∧ hv = .slice none 0 0) ∨ ∃ (k g cap : Nat), s.handed = true ∧ hs.length = k + 1 ∧ hv = .slice (some ⟨g, 0, none⟩) (k + 1) cap ∧ k + 1 ≤ cap ∧ cap ≤ 9223372036854775807 ∧ base ≤ g ∧ g < W.heap.size ∧ W.cell? ⟨g, k, none⟩ = some (.int .i64 s.last) := by
  rcases h.rf.hd with ⟨h1, h2⟩ | ⟨⟨ys, h1⟩, h2⟩
  · exact Or.inl ⟨h2, h1, h.nil_ h1⟩
  · have hl : hs.length = ys.length + 1 := by rw [h1]; simp
    have ho := h.own
    obtain ⟨e1, e2⟩ := ho
    rcases e2 with ⟨-, e3⟩ | ⟨g, cap, cur, e3, e4, e5, e6, e7, e8, e9⟩
    · omega
    · refine Or.inr ⟨ys.length, g, cap, h2, hl, by rw [e3, hl], by omega, by unfold maxLen at e7; omega, e4, (Array.getElem?_eq_some_iff.1 e5).1, ?_⟩
      rw [cell_of_row W g _ cur 3 (0, 0) e5]
      have : cur.toList[ys.length]? = (hs.map (Value.int .i64))[ys.length]? := by
        rw [← e9, List.getElem?_take, if_pos (by omega)]
      rw [h1] at this
      simpa using this
theorem Ref.wshape (h : Ref W base s hs wv hv) : ∃ A m c, wv = .slice A m c := by
  rcases h.wait with ⟨-, h⟩ | ⟨-, b, -, h, -⟩
  · exact ⟨_, _, _, h⟩
  · exact ⟨_, _, _, h⟩
theorem Ref.hshape (h : Ref W base s hs wv hv) : ∃ A c, hv = .slice A hs.length c := by
  rcases h.own.2 with ⟨e1, e2⟩ | ⟨g, cap, cur, e3, -⟩
  · exact ⟨_, _, by rw [e2]; exact e1⟩
  · exact ⟨_, _, e3⟩
theorem Ref.apart_ (h : Ref W base s hs wv hv) {g : Nat} (hg : W.heap.size ≤ g) : Apart wv hv g := by
  refine ⟨?_, fun e => by have := (h.own.lt g e).2; omega⟩
  rcases h.wait with ⟨-, rfl⟩ | ⟨-, b, -, rfl, h4⟩
  · simp [Value.ownBlock]
  · have := Has.lt h4
    simp [Value.ownBlock]; omega
theorem Ref.set_ (h : Ref W base s hs wv hv) {g : Nat} (ha : Apart wv hv g) (i : Nat) (u : Value) : Ref (W.setCell ⟨g, i, none⟩ u) base s hs wv hv := by
  refine ⟨?_, h.own.kept (only_here (only_refl W _) i u) (Or.inr ha.2), h.nil_, h.rf⟩
  rcases h.wait with h1 | ⟨h1, b, h2, rfl, h4⟩
  · exact Or.inl h1
  · exact Or.inr ⟨h1, b, h2, rfl, h4.there (p := ⟨g, i, none⟩) (fun e => ha.1 (by simp [Value.ownBlock, e])) u⟩
theorem Ref.taken_ {A : Option Addr} {c : Nat} (hq : Thr.ready s = true) (rf : Thr.Rf s hs) (own : W.ownsRow base 3 1 (.slice A (hs.length + 1) c) (hs.length + 1) (hs.map (Value.int .i64) ++ [.int .i64 s.now])) :
    Ref W base (Thr.take 0 s) (Thr.rtake s hs) (.slice none 0 0) (.slice A (hs.length + 1) c) := by
  have e : Thr.rtake s hs = hs ++ [s.now] := by unfold Thr.rtake; rw [if_pos hq]
  refine ⟨Or.inl ⟨by unfold Thr.take; rw [if_pos hq], rfl⟩, ?_, ?_, rf.take_⟩
  · rw [e]; simpa using own
  · rw [e]; simp
theorem Ref.moved (h : Ref W base s hs wv hv) (now : Int) : Ref W base (Thr.move s now) hs wv hv := by
  refine ⟨?_, h.own, h.nil_, h.rf.move_ now⟩
  have := h.wait
  unfold Thr.move
  split
  · exact this
  · exact this
end
end Go.Proofs.Ythbefhpgpebkgaa
