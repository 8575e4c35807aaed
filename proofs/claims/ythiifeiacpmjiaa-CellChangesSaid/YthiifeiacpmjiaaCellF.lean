/- A cell's methods over a call that made the cell. Conditions: the cell's numbers are in bounds. -/
import Derived.Test.YthiifeiacpmjiaaCellD
import Derived.Test.YthiifeiacpmjiaaCellE
namespace Go.Proofs.Ythiifeiacpmjiaa
open Go.RowKit

structure Cel.Ok (N : Int) (c : Cel) : Prop where
  v0 : 0 ≤ c.version
  v1 : c.version ≤ N
  l0 : 0 ≤ c.lost
  l1 : c.lost ≤ N

theorem Cel.Ok.more {N M : Int} {c : Cel} (h : c.Ok N) (hM : N ≤ M) : c.Ok M := ⟨h.v0, by have := h.v1; omega, h.l0, by have := h.l1; omega⟩
theorem Cel.Ok.puts {N : Int} {c : Cel} (h : c.Ok N) (v ev : Int) : (c.puts v ev).1.Ok (N + 1) := by
  obtain ⟨h1, h2, h3, h4⟩ := h
  unfold Cel.puts
  split
  · exact ⟨h1, by dsimp only; omega, h3, by dsimp only; omega⟩
  · split
    · unfold Cel.put
      exact ⟨by dsimp only; omega, by dsimp only; omega, by dsimp only; split <;> omega, by dsimp only; split <;> omega⟩
    · exact ⟨h1, by dsimp only; omega, h3, by dsimp only; omega⟩

/-- Behind a call that began in world W: the cell at b, a block of the call's own, holds c; what was there when the call began is as it was. -/
structure Run (W w : World) (b : Nat) (N : Int) (c : Cel) : Prop where
  base : W.heap.size ≤ b
  below : Below W.heap.size W w
  at_ : At w b c
  ok : c.Ok N

section
variable {W w w' : World} {b : Nat} {N : Int} {c c' : Cel}
theorem Run.to_ {M : Int} (h : Run W w b N c) (k : To w w' b c') (hs : c'.Ok M) : Run W w' b M c' := ⟨h.base, h.below.trans (only_below k.grown h.base h.below.size), k.has, hs⟩
theorem Run.on_ (h : Run W w b N c) (k : Below w.heap.size w w') : Run W w' b N c := ⟨h.base, h.below.trans (k.mono h.below.size), Has.below h.at_ k (Has.lt h.at_), h.ok⟩
theorem Run.alloc_ (h : Run W w b N c) (o : Obj) : Run W (w.alloc o) b N c := ⟨h.base, h.below.alloc h.below.size o, Has.alloc h.at_ o, h.ok⟩
theorem Run.drew_ (h : Run W w b N c) : Run W w.drew b N c := ⟨h.base, h.below.drew, h.at_, h.ok⟩
theorem Run.set_ (h : Run W w b N c) (g i : Nat) (u : Value) (hg : W.heap.size ≤ g) (hb : b ≠ g) : Run W (w.setCell ⟨g, i, none⟩ u) b N c := ⟨h.base, h.below.setCell (p := ⟨g, i, none⟩) hg u, Has.there (p := ⟨g, i, none⟩) h.at_ hb u, h.ok⟩
theorem Run.more_ {M : Int} (h : Run W w b N c) (hM : N ≤ M) : Run W w b M c := ⟨h.base, h.below, h.at_, h.ok.more hM⟩
theorem Run.as_ (h : Run W w b N c) (e : c = c') : Run W w b N c' := e ▸ h

theorem new_run (w : World) (hw : Below W.heap.size W w) :
    Calls Try.prog 8 #[] w fun e w' => e = .returned (.pointer (some ⟨w.heap.size, 0, none⟩)) ∧ Run W w' w.heap.size 0 newCel ∧ Below w.heap.size w w' :=
  (new_any w).mono fun _ _ ⟨he, k⟩ => ⟨he, k ▸ ⟨hw.size, hw.alloc hw.size _, Has.made w _ _, ⟨by decide, by decide, by decide, by decide⟩⟩, k ▸ (Below.refl _ _).alloc (Nat.le_refl _) _⟩
theorem put_run (v : Int) {n er : Int} (hp : c.puts v 0 = (c', n, er)) (h : Run W w b N c) (hN : N ≤ 1000000) :
    Calls Try.prog 9 #[.pointer (some ⟨b, 0, none⟩), .int .i64 v] w fun e w' => e = .returned (.tuple #[.int .i64 n, .int .i64 er]) ∧ Run W w' b (N + 1) c' ∧ w.grownBy w' (some b) :=
  (put_any b v c w h.at_ h.ok.v0 (by have := h.ok.v1; omega) h.ok.l0 (by have := h.ok.l1; omega)).mono fun _ _ ⟨he, k⟩ => ⟨by rw [he, hp], by have := h.to_ k (h.ok.puts v 0); rwa [hp] at this, k.grown⟩
theorem change_run (m v : Int) {n er : Int} (hp : c.puts v (c.stale m) = (c', n, er)) (h : Run W w b N c) (hN : N ≤ 1000000) :
    Calls Try.prog 17 #[.pointer (some ⟨b, 0, none⟩), .int .i64 m, .int .i64 v] w fun e w' => e = .returned (.tuple #[.int .i64 n, .int .i64 er]) ∧ Run W w' b (N + 1) c' ∧ w.grownBy w' (some b) :=
  (change_any b m v c w h.at_ h.ok.v0 (by have := h.ok.v1; omega) h.ok.l0 (by have := h.ok.l1; omega)).mono fun _ _ ⟨he, k⟩ => ⟨by rw [he, hp], by have := h.to_ k (h.ok.puts v _); rwa [hp] at this, k.grown⟩
theorem take_run {x n : Int} (hp : c.took = (x, n)) (h : Run W w b N c) :
    Calls Try.prog 10 #[.pointer (some ⟨b, 0, none⟩)] w fun e w' => e = .returned (.tuple #[.int .i64 x, .int .i64 n, .bool c.fresh]) ∧ Run W w' b N { c with fresh := false } ∧ w.grownBy w' (some b) :=
  (take_any b c w h.at_).mono fun _ _ ⟨he, k⟩ => ⟨by rw [he, hp], h.to_ k ⟨h.ok.v0, h.ok.v1, h.ok.l0, h.ok.l1⟩, k.grown⟩
theorem look_run (h : Run W w b N c) :
    Calls Try.prog 14 #[.pointer (some ⟨b, 0, none⟩)] w fun e w' => e = .returned (.tuple #[.int .i64 c.value, .int .i64 c.version, .bool (decide (0 < c.version))]) ∧ Run W w' b N c ∧ w.grownBy w' (some b) :=
  (look_any b c w h.at_).mono fun _ _ ⟨he, k⟩ => ⟨he, h.to_ k h.ok, k.grown⟩
theorem fresh_run (h : Run W w b N c) :
    Calls Try.prog 12 #[.pointer (some ⟨b, 0, none⟩)] w fun e w' => e = .returned (.bool c.fresh) ∧ Run W w' b N c ∧ w.grownBy w' (some b) :=
  (fresh_any b c w h.at_).mono fun _ _ ⟨he, k⟩ => ⟨he, h.to_ k h.ok, k.grown⟩
theorem version_run (h : Run W w b N c) :
    Calls Try.prog 13 #[.pointer (some ⟨b, 0, none⟩)] w fun e w' => e = .returned (.int .i64 c.version) ∧ Run W w' b N c ∧ w.grownBy w' (some b) :=
  (version_any b c w h.at_).mono fun _ _ ⟨he, k⟩ => ⟨he, h.to_ k h.ok, k.grown⟩
theorem lost_run (h : Run W w b N c) :
    Calls Try.prog 11 #[.pointer (some ⟨b, 0, none⟩)] w fun e w' => e = .returned (.int .i64 c.lost) ∧ Run W w' b N c ∧ w.grownBy w' (some b) :=
  (lost_any b c w h.at_).mono fun _ _ ⟨he, k⟩ => ⟨he, h.to_ k h.ok, k.grown⟩
theorem close_run (h : Run W w b N c) :
    Calls Try.prog 15 #[.pointer (some ⟨b, 0, none⟩)] w fun e w' => e = .returned (.bool (!c.closed)) ∧ Run W w' b N { c with closed := true } ∧ w.grownBy w' (some b) :=
  (close_any b c w h.at_).mono fun _ _ ⟨he, k⟩ => ⟨he, h.to_ k ⟨h.ok.v0, h.ok.v1, h.ok.l0, h.ok.l1⟩, k.grown⟩
theorem closed_run (h : Run W w b N c) :
    Calls Try.prog 16 #[.pointer (some ⟨b, 0, none⟩)] w fun e w' => e = .returned (.bool c.closed) ∧ Run W w' b N c ∧ w.grownBy w' (some b) :=
  (closed_any b c w h.at_).mono fun _ _ ⟨he, k⟩ => ⟨he, k ▸ h, k ▸ only_refl _ _⟩
end
end Go.Proofs.Ythiifeiacpmjiaa
