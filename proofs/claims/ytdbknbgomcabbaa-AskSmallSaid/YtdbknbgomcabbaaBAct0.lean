/- The boxes of a call of 'act'. Conditions: none beyond each theorem's own premises. -/
import Derived.Test.YtdbknbgomcabbaaBSame
namespace Go.Proofs.Ytdbknbgomcabbaa
open Go.RowKit

/-- The boxes of a call of act that began in world w0: the reference's state, the act, the result; of what was there only block b has turned. -/
structure Bx (w0 : World) (b : Nat) (s : Ak.St) (hv : Value) (kind n : Int) (good : Bool) (W : World) : Prop where
  p : Has W w0.heap.size 61 #[.int .i64 s.start, .int .i64 s.width, .int .i64 s.clock, .bool s.stopped, hv, .int .i64 s.skipped, .int .i64 s.late]
  x : Has W (w0.heap.size + 1) 26 #[.int .u8 kind, .int .i64 n, .bool good]
  r : Has W (w0.heap.size + 1 + 1) 61 #[.int .i64 0, .int .i64 0, .int .i64 0, .bool false, .slice none 0 0, .int .i64 0, .int .i64 0]
  g : w0.grownBy W (some b)
theorem tmod_two (n : Int) : n.tmod 2 = 0 ↔ n % 2 = 0 := by
  have h := Int.tmod_eq_emod (a := n) (b := 2)
  rw [h]
  split <;> omega

section
variable {w0 : World} {b : Nat} {s : Ak.St} {hv : Value} {kind n : Int} {good : Bool} {w W W' W0 : World} {N : Int} {rs : List Ak.Req}
theorem Bx.on (h : Bx w0 b s hv kind n good W) (k : Below W.heap.size W W') : Bx w0 b s hv kind n good W' := ⟨h.p.below k (Has.lt h.p), h.x.below k (Has.lt h.x), h.r.below k (Has.lt h.r), only_trans h.g (below_grown k)⟩
theorem Bx.turn (h : Bx w0 b s hv kind n good W) (k : W.grownBy W' (some b)) (hb : b < w0.heap.size) : Bx w0 b s hv kind n good W' := ⟨h.p.grown k (by simp; omega), h.x.grown k (by simp; omega), h.r.grown k (by simp; omega), only_trans h.g k⟩
theorem Bx.start (w : World) (b : Nat) : Bx w b s hv kind n good (((w.alloc (.cells #[.int .i64 s.start, .int .i64 s.width, .int .i64 s.clock, .bool s.stopped, hv, .int .i64 s.skipped, .int .i64 s.late] 61)).alloc (.cells #[.int .u8 kind, .int .i64 n, .bool good] 26)).alloc (.cells #[.int .i64 0, .int .i64 0, .int .i64 0, .bool false, .slice none 0 0, .int .i64 0, .int .i64 0] 61)) :=
  ⟨((Has.made _ _ _).alloc _).alloc _, (bmade_at _ _ (by simp)).alloc _, bmade_at _ _ (by simp), only_alloc (only_alloc (only_alloc (only_refl _ _) _) _) _⟩
theorem Bx.alloc (h : Bx w0 b s hv kind n good W) (o : Obj) : Bx w0 b s hv kind n good (W.alloc o) := ⟨h.p.alloc o, h.x.alloc o, h.r.alloc o, only_alloc h.g o⟩
theorem Bx.end_ (h : w0.grownBy W (some b)) (u0 u1 u2 u3 u4 u5 u6 : Value) : w0.grownBy (set7 W (w0.heap.size + 1 + 1) u0 u1 u2 u3 u4 u5 u6) (some b) :=
  have l : ∀ i, w0.heap.size ≤ (⟨w0.heap.size + 1 + 1, i, none⟩ : Addr).block := fun _ => by simp; omega
  only_new (only_new (only_new (only_new (only_new (only_new (only_new h (l 0) u0) (l 1) u1) (l 2) u2) (l 3) u3) (l 4) u4) (l 5) u5) (l 6) u6
theorem Both.set7_ (h : Both W0 W b N s rs hv) {g : Nat} (ha : hv.ownBlock ≠ some g) (hg : b < g) (u0 u1 u2 u3 u4 u5 u6 : Value) : Both W0 (set7 W g u0 u1 u2 u3 u4 u5 u6) b N s rs hv :=
  ⟨⟨h.run.base, below7 _ _ _ _ _ _ _ h.run.below (by have := h.run.base; omega), Has.there7 _ _ _ _ _ _ _ h.run.at_ (by omega), h.run.ok⟩, h.row.set7_ _ _ _ _ _ _ _ ha, h.rf⟩
end
end Go.Proofs.Ytdbknbgomcabbaa
