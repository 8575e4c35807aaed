/- The throttle's methods at string, walked one by one: each answers, and leaves the throttle, as the plain functions say. Conditions: the receiver is a throttle that was made, its numbers in bounds. -/
import Derived.Test.YthbefhpgpebkgaaRows
import Derived.Test.YthbefhpgpebkgaaMem
import Derived.Test.YthbefhpgpebkgaaPlain
import Derived.Test.YthbefhpgpebkgaaTSC
import Derived.Test.YthbefhpgpebkgaaTSD
import Derived.WalkSpells
import Derived.WalkLawsBesides
import Derived.BigQuiet
import Derived.Lib.Hide
namespace Go.Proofs.Ythbefhpgpebkgaa.TS
open Go.RowKit

/-- Behind a call that began in world W: the throttle at b, a block of the call's own, is in state s; what was there when the call began is as it was. -/
structure Run (W w : World) (b : Nat) (N : Int) (s : Thr.St ByteArray) : Prop where
  base : W.heap.size ≤ b
  below : Below W.heap.size W w
  at_ : At w b s
  ok : Thr.Ok N s

section
variable {W w w' : World} {b : Nat} {N : Int} {s s' : Thr.St ByteArray}

theorem Run.to_ {M : Int} (h : Run W w b N s) (k : To w w' b s') (hs : Thr.Ok M s') : Run W w' b M s' :=
  ⟨h.base, h.below.trans (only_below k.grown h.base h.below.size), k.has, hs⟩
theorem Run.on_ (h : Run W w b N s) (k : Below w.heap.size w w') : Run W w' b N s :=
  ⟨h.base, h.below.trans (k.mono h.below.size), Has.below h.at_ k (Has.lt h.at_), h.ok⟩
theorem Run.other_ {row : Option Nat} (h : Run W w b N s) (k : w.grownBy w' row) (hne : some b ≠ row) (hr : ∀ g, row = some g → W.heap.size ≤ g) : Run W w' b N s :=
  ⟨h.base, h.below.grown k h.below.size hr, Has.grown h.at_ k hne, h.ok⟩
theorem Run.alloc_ (h : Run W w b N s) (o : Obj) : Run W (w.alloc o) b N s := ⟨h.base, h.below.alloc h.below.size o, Has.alloc h.at_ o, h.ok⟩
theorem Run.drew_ (h : Run W w b N s) : Run W w.drew b N s := ⟨h.base, h.below.drew, h.at_, h.ok⟩
theorem Run.more_ {M : Int} (h : Run W w b N s) (hM : N ≤ M) : Run W w b M s := ⟨h.base, h.below, h.at_, h.ok.more hM⟩

theorem new_run (n : Int) (w : World) (h0 : 0 ≤ n) (h1 : n ≤ 1048576) (hw : Below W.heap.size W w) :
    Calls Try.prog 29 #[.int .i64 n] w fun e w' => e = .returned (.tuple #[.pointer (some ⟨w.heap.size, 0, none⟩), .int .i64 0]) ∧ Run W w' w.heap.size 0 (Thr.fresh ByteArray.empty n) ∧ Below w.heap.size w w' :=
  (new_yes n w h0 h1).mono fun _ _ ⟨he, hw'⟩ => ⟨he, hw' ▸ ⟨hw.size, hw.alloc hw.size _, Has.made w _ _, Thr.Ok.fresh h0 h1 (by omega)⟩, hw' ▸ (Below.refl _ _).alloc (Nat.le_refl _) _⟩

theorem offer_run (x : ByteArray) (h : Run W w b N s) (hN : N ≤ 1000000000) :
    Calls Try.prog 30 #[.pointer (some ⟨b, 0, none⟩), .string x] w fun e w' => e = .returned (.int .i64 0) ∧ Run W w' b (N + 1) (Thr.offer s x) ∧ w.grownBy w' (some b) :=
  (offer_any b N s x w h.at_ h.ok hN).mono fun _ _ ⟨he, k⟩ => ⟨he, h.to_ k (h.ok.offer x), k.grown⟩

theorem take_run (h : Run W w b N s) (hN : N ≤ 1000000000) :
    Calls Try.prog 31 #[.pointer (some ⟨b, 0, none⟩)] w fun e w' => e = .returned (.tuple #[.string (Thr.taken ByteArray.empty s), .bool (Thr.ready s)]) ∧ Run W w' b (N + 1) (Thr.take ByteArray.empty s) ∧ w.grownBy w' (some b) :=
  (take_any b N s w h.at_ h.ok hN).mono fun _ _ ⟨he, k⟩ => ⟨he, h.to_ k (h.ok.take ByteArray.empty), k.grown⟩

theorem next_run (h : Run W w b N s) :
    Calls Try.prog 32 #[.pointer (some ⟨b, 0, none⟩)] w fun e w' => e = .returned (.tuple #[.int .i64 (Thr.nextAt s), .bool s.waits]) ∧ Run W w' b N s ∧ Below w.heap.size w w' :=
  (next_any b N s w h.at_ h.ok).mono fun _ _ ⟨he, k⟩ => ⟨he, h.on_ k, k⟩

theorem ready_run (h : Run W w b N s) :
    Calls Try.prog 56 #[.pointer (some ⟨b, 0, none⟩)] w fun e w' => e = .returned (.bool (Thr.ready s)) ∧ Run W w' b N s ∧ Below w.heap.size w w' :=
  (ready_any b N s w h.at_ h.ok).mono fun _ _ ⟨he, k⟩ => ⟨he, h.on_ k, k⟩

theorem counts_run (h : Run W w b N s) :
    Calls Try.prog 34 #[.pointer (some ⟨b, 0, none⟩)] w fun e w' => e = .returned (.tuple #[.int .i64 s.offered, .int .i64 s.taken, .int .i64 s.lost]) ∧ Run W w' b N s ∧ Below w.heap.size w w' :=
  (counts_any b s w h.at_).mono fun _ _ ⟨he, k⟩ => ⟨he, h.on_ k, k⟩

theorem move_run (now : Int) (h : Run W w b N s) :
    Calls Try.prog 33 #[.pointer (some ⟨b, 0, none⟩), .int .i64 now] w fun e w' => e = .returned (.int .i64 (Thr.moveErr s now)) ∧ Run W w' b N (Thr.move s now) ∧ w.grownBy w' (some b) :=
  (move_any b s now w h.at_).mono fun _ _ ⟨he, k⟩ => ⟨he, h.to_ k (h.ok.move now), k.grown⟩

end

end Go.Proofs.Ythbefhpgpebkgaa.TS
