/- 'act', walked: the same is done with the throttle and with the reference's state. Conditions: both in memory, numbers in bounds. -/
import Derived.Test.YthbefhpgpebkgaaRefTake
import Derived.Test.YthbefhpgpebkgaaTIE
import Derived.Deep.RegionHeld3
namespace Go.Proofs.Ythbefhpgpebkgaa
open Go.RowKit

/-- The throttle at b, and the reference's state, behind a call that began in world W0. -/
structure Both (W0 W : World) (b : Nat) (N : Int) (s : Thr.St Int) (hs : List Int) (wv hv : Value) : Prop where
  run : TI.Run W0 W b N s
  ref : Ref W (b + 1) s hs wv hv

/-- The boxes of a call of act that began in world w0: the reference's state, the act, the result; of what was there only block b has turned. -/
structure Bx (w0 : World) (b : Nat) (s : Thr.St Int) (wv hv : Value) (kind n : Int) (W : World) : Prop where
  p : Has W w0.heap.size 81 #[.int .i64 s.width, .int .i64 s.now, wv, hv, .int .i64 s.offered, .int .i64 s.lost]
  x : Has W (w0.heap.size + 1) 58 #[.int .u8 kind, .int .i64 n]
  r : Has W (w0.heap.size + 1 + 1) 81 #[.int .i64 0, .int .i64 0, .slice none 0 0, .slice none 0 0, .int .i64 0, .int .i64 0]
  g : w0.grownBy W (some b)
section
variable {w0 : World} {b : Nat} {s : Thr.St Int} {wv hv : Value} {kind n : Int} {w W W' W0 : World} {N : Int} {hs : List Int}
theorem Bx.on (h : Bx w0 b s wv hv kind n W) (k : Below W.heap.size W W') : Bx w0 b s wv hv kind n W' := ⟨h.p.below k (Has.lt h.p), h.x.below k (Has.lt h.x), h.r.below k (Has.lt h.r), only_trans h.g (below_grown k)⟩
theorem Bx.turn (h : Bx w0 b s wv hv kind n W) (k : W.grownBy W' (some b)) (hb : b < w0.heap.size) : Bx w0 b s wv hv kind n W' := ⟨h.p.grown k (by simp; omega), h.x.grown k (by simp; omega), h.r.grown k (by simp; omega), only_trans h.g k⟩
theorem Bx.start (w : World) (b : Nat) : Bx w b s wv hv kind n (((w.alloc (.cells #[.int .i64 s.width, .int .i64 s.now, wv, hv, .int .i64 s.offered, .int .i64 s.lost] 81)).alloc (.cells #[.int .u8 kind, .int .i64 n] 58)).alloc (.cells #[.int .i64 0, .int .i64 0, .slice none 0 0, .slice none 0 0, .int .i64 0, .int .i64 0] 81)) :=
  ⟨((Has.made _ _ _).alloc _).alloc _, (made_at _ _ (by simp)).alloc _, made_at _ _ (by simp), only_alloc (only_alloc (only_alloc (only_refl _ _) _) _) _⟩
theorem Bx.drew (h : Bx w0 b s wv hv kind n W) : Bx w0 b s wv hv kind n W.drew := ⟨h.p.drew, h.x.drew, h.r.drew, only_drew h.g⟩
theorem Bx.alloc (h : Bx w0 b s wv hv kind n W) (o : Obj) : Bx w0 b s wv hv kind n (W.alloc o) := ⟨h.p.alloc o, h.x.alloc o, h.r.alloc o, only_alloc h.g o⟩
theorem Bx.end_ (h : Bx w0 b s wv hv kind n W) (u0 u1 u2 u3 u4 u5 : Value) :
    w0.grownBy ((((((W.setCell ⟨w0.heap.size + 1 + 1, 0, none⟩ u0).setCell ⟨w0.heap.size + 1 + 1, 1, none⟩ u1).setCell ⟨w0.heap.size + 1 + 1, 2, none⟩ u2).setCell ⟨w0.heap.size + 1 + 1, 3, none⟩ u3).setCell ⟨w0.heap.size + 1 + 1, 4, none⟩ u4).setCell ⟨w0.heap.size + 1 + 1, 5, none⟩ u5) (some b) :=
  have l : ∀ i, w0.heap.size ≤ (⟨w0.heap.size + 1 + 1, i, none⟩ : Addr).block := fun _ => by simp; omega
  only_new (only_new (only_new (only_new (only_new (only_new h.g (l 0) u0) (l 1) u1) (l 2) u2) (l 3) u3) (l 4) u4) (l 5) u5
theorem Ref.drew_ {base : Nat} (h : Ref W base s hs wv hv) : Ref W.drew base s hs wv hv := h.on_ (Below.refl _ _).drew
theorem Both.set_ (h : Both W0 W b N s hs wv hv) {g : Nat} (ha : Apart wv hv g) (hg : b < g) (i : Nat) (u : Value) : Both W0 (W.setCell ⟨g, i, none⟩ u) b N s hs wv hv :=
  ⟨⟨h.run.base, below_set h.run.below _ _ _ (by have := h.run.base; omega), Has.there (p := ⟨g, i, none⟩) h.run.at_ (by simp; omega) u, h.run.ok⟩, h.ref.set_ ha i u⟩
theorem Both.set6_ (h : Both W0 W b N s hs wv hv) {g : Nat} (ha : Apart wv hv g) (hg : b < g) (u0 u1 u2 u3 u4 u5 : Value) :
    Both W0 ((((((W.setCell ⟨g, 0, none⟩ u0).setCell ⟨g, 1, none⟩ u1).setCell ⟨g, 2, none⟩ u2).setCell ⟨g, 3, none⟩ u3).setCell ⟨g, 4, none⟩ u4).setCell ⟨g, 5, none⟩ u5) b N s hs wv hv :=
  (((((h.set_ ha hg 0 u0).set_ ha hg 1 u1).set_ ha hg 2 u2).set_ ha hg 3 u3).set_ ha hg 4 u4).set_ ha hg 5 u5
theorem Both.more_ {M : Int} (h : Both W0 W b N s hs wv hv) (hM : N ≤ M) : Both W0 W b M s hs wv hv := ⟨h.run.more_ hM, h.ref⟩
theorem Both.on_ (h : Both W0 W b N s hs wv hv) (k : Below W.heap.size W W') : Both W0 W' b N s hs wv hv := ⟨h.run.on_ k, h.ref.on_ k⟩

theorem move_both (now f : Int) (s1 : Thr.St Int) (h : TI.Run W0 W b N s) (h1 : Thr.move s now = s1) (h2 : Thr.moveErr s now = f) :
    Calls Try.prog 16 #[.pointer (some ⟨b, 0, none⟩), .int .i64 now] W fun e w' => e = .returned (.int .i64 f) ∧ TI.Run W0 w' b N s1 ∧ W.grownBy w' (some b) :=
  (TI.move_run now h).mono fun _ _ ⟨he, k, g⟩ => ⟨by rw [he, h2], h1 ▸ k, g⟩

end
end Go.Proofs.Ythbefhpgpebkgaa
