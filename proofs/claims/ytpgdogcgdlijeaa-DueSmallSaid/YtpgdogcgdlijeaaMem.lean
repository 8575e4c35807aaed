/- Words on memory for this seat's proofs: a block that is known whole, what a call that writes one block leaves, and how both outlive new blocks, draws and stores elsewhere. Conditions: none beyond each theorem's own premises. -/
import Derived.WalkKit
namespace Go.Proofs.Ytpgdogcgdlijeaa
open Go.RowKit

/-- Block g holds just the cells cs, of element type t, and none of them is frozen. -/
def Has (w : World) (g : Nat) (t : TypeId) (cs : Array Value) : Prop := w.heap[g]? = some (.cells cs t (0, 0))

section
variable {w w' : World} {g : Nat} {t : TypeId} {cs : Array Value}

theorem Has.lt (h : Has w g t cs) : g < w.heap.size := lt_of_block h
theorem Has.cell (h : Has w g t cs) (i : Nat) : w.cell? ⟨g, i, none⟩ = cs[i]? := by
  unfold Has at h
  simp [World.cell?, h]
theorem Has.free (h : Has w g t cs) (i : Nat) : w.frozen? ⟨g, i, none⟩ = false := by
  unfold Has at h
  simp [World.frozen?, h]
theorem Has.made (w : World) (t : TypeId) (cs : Array Value) : Has (w.alloc (.cells cs t)) w.heap.size t cs := heap_alloc_new w _
theorem Has.drew (h : Has w g t cs) : Has w.drew g t cs := h
theorem Has.alloc (h : Has w g t cs) (o : Obj) : Has (w.alloc o) g t cs := (Below.heap_alloc w o g h.lt).trans h
theorem Has.here (h : Has w g t cs) (i : Nat) (u : Value) : Has (w.setCell ⟨g, i, none⟩ u) g t (cs.setIfInBounds i u) := by
  unfold Has at h ⊢
  simp [World.setCell, Array.getElem?_modify, h]
theorem Has.there (h : Has w g t cs) {p : Addr} (hp : g ≠ p.block) (u : Value) : Has (w.setCell p u) g t cs := (Below.heap_setCell w p u g hp).trans h
theorem Has.below {B : Nat} (h : Has w g t cs) (hb : Below B w w') (hg : g < B) : Has w' g t cs := (hb.block g hg).trans h
theorem Has.grown {row : Option Nat} (h : Has w g t cs) (hb : w.grownBy w' row) (hg : some g ≠ row) : Has w' g t cs := (hb.block g h.lt hg).trans h

/-- Only block g, and what is new, has turned; g holds cs. -/
structure Turned (w w' : World) (g : Nat) (t : TypeId) (cs : Array Value) : Prop where
  grown : w.grownBy w' (some g)
  has : Has w' g t cs

theorem only_refl (w : World) (row : Option Nat) : w.grownBy w row := ⟨rfl, rfl, rfl, Nat.le_refl _, fun _ _ _ => rfl⟩
theorem only_drew {a w : World} {row : Option Nat} (h : a.grownBy w row) : a.grownBy w.drew row := ⟨h.os, h.tape, h.output, h.size, h.block⟩
theorem only_alloc {a w : World} {row : Option Nat} (h : a.grownBy w row) (o : Obj) : a.grownBy (w.alloc o) row :=
  ⟨h.os, h.tape, h.output, Nat.le_trans h.size (by simp), fun i hi hne => (Below.heap_alloc w o i (Nat.lt_of_lt_of_le hi h.size)).trans (h.block i hi hne)⟩
theorem only_here {a w : World} {g : Nat} (h : a.grownBy w (some g)) (i : Nat) (u : Value) : a.grownBy (w.setCell ⟨g, i, none⟩ u) (some g) :=
  ⟨h.os, h.tape, h.output, by simpa [World.setCell] using h.size, fun k hk hne => (Below.heap_setCell w _ u k (fun e => hne (by rw [e]))).trans (h.block k hk hne)⟩
theorem only_new {a w : World} {row : Option Nat} (h : a.grownBy w row) {p : Addr} (hp : a.heap.size ≤ p.block) (u : Value) : a.grownBy (w.setCell p u) row :=
  ⟨h.os, h.tape, h.output, by simpa [World.setCell] using h.size, fun k hk hne => (Below.heap_setCell w p u k (by omega)).trans (h.block k hk hne)⟩
theorem only_trans {a b c : World} {row : Option Nat} (h : a.grownBy b row) (k : b.grownBy c row) : a.grownBy c row :=
  ⟨k.os.trans h.os, k.tape.trans h.tape, k.output.trans h.output, Nat.le_trans h.size k.size, fun i hi hne => (k.block i (Nat.lt_of_lt_of_le hi h.size) hne).trans (h.block i hi hne)⟩
theorem only_below {a w : World} {B : Nat} {g : Nat} (h : a.grownBy w (some g)) (hB : B ≤ g) (hs : B ≤ a.heap.size) : Below B a w :=
  ⟨h.os, h.tape, h.output, h.size, fun k hk => h.block k (by omega) (by simp; omega)⟩

theorem Turned.begin_ (h : Has w g t cs) : Turned w w g t cs := ⟨only_refl w _, h⟩
theorem Turned.drew_ {a : World} (h : Turned a w g t cs) : Turned a w.drew g t cs := ⟨only_drew h.grown, h.has.drew⟩
theorem Turned.alloc_ {a : World} (h : Turned a w g t cs) (o : Obj) : Turned a (w.alloc o) g t cs := ⟨only_alloc h.grown o, h.has.alloc o⟩
theorem Turned.here_ {a : World} (h : Turned a w g t cs) (i : Nat) (u : Value) : Turned a (w.setCell ⟨g, i, none⟩ u) g t (cs.setIfInBounds i u) := ⟨only_here h.grown i u, h.has.here i u⟩
theorem Turned.new_ {a : World} (h : Turned a w g t cs) (hg : g < a.heap.size) (n i : Nat) (hn : a.heap.size ≤ n) (u : Value) : Turned a (w.setCell ⟨n, i, none⟩ u) g t cs :=
  ⟨only_new (p := ⟨n, i, none⟩) h.grown hn u, h.has.there (p := ⟨n, i, none⟩) (by simp; omega) u⟩
theorem Turned.conv_ {a : World} {cs' : Array Value} (h : Turned a w g t cs) (he : cs = cs') : Turned a w g t cs' := he ▸ h
theorem Turned.then_ {a b : World} {cs' : Array Value} (h : Turned a b g t cs) (k : Turned b w g t cs') : Turned a w g t cs' := ⟨only_trans h.grown k.grown, k.has⟩
/-- What turned in a world that had only new blocks more than a. -/
theorem Turned.since_ {a b : World} (h : Below a.heap.size a b) (k : Turned b w g t cs) : Turned a w g t cs :=
  ⟨⟨k.grown.os.trans h.os, k.grown.tape.trans h.tape, k.grown.output.trans h.output, Nat.le_trans h.size k.grown.size,
    fun i hi hne => (k.grown.block i (Nat.lt_of_lt_of_le hi h.size) hne).trans (h.block i hi)⟩, k.has⟩

theorem own_kept {base : Nat} {e : TypeId} {size n : Nat} {v : Value} {xs : List Value} (h : w.ownsRow base e size v n xs) (k : w.grownBy w' (some g)) (hg : g < base) : w'.ownsRow base e size v n xs :=
  h.kept k (by
    rcases hv : v.ownBlock with _ | b
    · exact .inl rfl
    · have := (h.lt b hv).1
      right
      intro e
      injection e with e
      omega)
theorem own_kept_below {base : Nat} {e : TypeId} {size n : Nat} {v : Value} {xs : List Value} (h : w.ownsRow base e size v n xs) (k : Below w.heap.size w w') : w'.ownsRow base e size v n xs :=
  h.kept (row := none) ⟨k.os, k.tape, k.output, k.size, fun i hi _ => k.block i hi⟩ (by
    rcases hv : v.ownBlock with _ | b
    · exact .inl rfl
    · right; simp)
/-- A cell of another block, or of none that turned, holds what it held. -/
theorem far_cell {b o : Nat} {v : Value} (k : w.grownBy w' (some g)) (hne : b ≠ g) (h : w.cell? ⟨b, o, none⟩ = some v) : w'.cell? ⟨b, o, none⟩ = some v :=
  k.cell h (by simpa using hne)
theorem below_grown {row : Option Nat} (k : Below w.heap.size w w') : w.grownBy w' row := ⟨k.os, k.tape, k.output, k.size, fun i hi _ => k.block i hi⟩
end
end Go.Proofs.Ytpgdogcgdlijeaa
