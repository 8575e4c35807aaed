/- What a call that began in world W knows of its Ask, and the methods' contracts in those words. Conditions: as there stated. -/
import Derived.Test.YtdbknbgomcabbaaA5
namespace Go.Proofs.Ytdbknbgomcabbaa
open Go.RowKit

/-- Behind a call that began in world W: the Ask at b, a block of the call's own, is in state s; what was there when the call began is as it was. -/
structure Run (W w : World) (b : Nat) (N : Int) (s : Ak.St) : Prop where
  base : W.heap.size ≤ b
  below : Below W.heap.size W w
  at_ : At w b s
  ok : Ak.Ok N s

section
variable {W w w' : World} {b : Nat} {N : Int} {s s' : Ak.St}

theorem Run.to_ {M : Int} (h : Run W w b N s) (k : To w w' b s') (hs : Ak.Ok M s') : Run W w' b M s' :=
  ⟨h.base, h.below.trans (only_below k.grown h.base h.below.size), k.has, hs⟩
theorem Run.on_ (h : Run W w b N s) (k : Below w.heap.size w w') : Run W w' b N s :=
  ⟨h.base, h.below.trans (k.mono h.below.size), Has.below h.at_ k (Has.lt h.at_), h.ok⟩
theorem Run.other_ {row : Option Nat} (h : Run W w b N s) (k : w.grownBy w' row) (hne : some b ≠ row) (hr : ∀ g, row = some g → W.heap.size ≤ g) : Run W w' b N s :=
  ⟨h.base, h.below.grown k h.below.size hr, Has.grown h.at_ k hne, h.ok⟩
theorem Run.alloc_ (h : Run W w b N s) (o : Obj) : Run W (w.alloc o) b N s := ⟨h.base, h.below.alloc h.below.size o, Has.alloc h.at_ o, h.ok⟩
theorem Run.drew_ (h : Run W w b N s) : Run W w.drew b N s := ⟨h.base, h.below.drew, h.at_, h.ok⟩
theorem Run.drewN_ (h : Run W w b N s) (n : Nat) : Run W (w.drewN n) b N s := ⟨h.base, below_drewN h.below n, h.at_, h.ok⟩
theorem Run.more_ {M : Int} (h : Run W w b N s) (hM : N ≤ M) : Run W w b M s := ⟨h.base, h.below, h.at_, h.ok.more hM⟩

theorem new_run (start width : Int) (w : World) (h0 : 0 ≤ start) (h1 : start ≤ 281474976710656) (h2 : 1 ≤ width) (h3 : width ≤ 1099511627776) (hw : Below W.heap.size W w) :
    Calls Try.prog 21 #[.int .i64 start, .int .i64 width] w fun e w' => e = .returned (.tuple #[.pointer (some ⟨w.heap.size, 0, none⟩), .int .i64 0]) ∧ Run W w' w.heap.size 1 (Ak.fresh start width) ∧ Below w.heap.size w w' :=
  (new_yes start width w h0 h1 h2 h3).mono fun _ _ ⟨he, hw'⟩ => ⟨he, hw' ▸ ⟨hw.size, hw.alloc hw.size _, Has.made w _ _, Ak.Ok.fresh_ h0 h1 h2 h3 (by omega)⟩, hw' ▸ (Below.refl _ _).alloc (Nat.le_refl _) _⟩

theorem move_run (now : Int) (h : Run W w b N s) (hN : N ≤ 1000000000) :
    Calls Try.prog 13 #[.pointer (some ⟨b, 0, none⟩), .int .i64 now] w fun e w' => e = .returned (.tuple #[.int .i64 (Ak.number s now), .int .i64 (Ak.moveErr s now)]) ∧ Run W w' b (N + 1) (Ak.move s now) ∧ w.grownBy w' (some b) :=
  (move_any b N s now w h.at_ h.ok hN).mono fun _ _ ⟨he, k⟩ => ⟨he, h.to_ k (h.ok.move_ now), k.grown⟩

theorem answer_run (n : Int) (g : Bool) (h : Run W w b N s) (hN : N ≤ 1000000000) :
    Calls Try.prog 17 #[.pointer (some ⟨b, 0, none⟩), .int .i64 n, .bool g] w fun e w' => e = .returned (.bool (Ak.takes s n)) ∧ Run W w' b (N + 1) (Ak.answer s n g) ∧ w.grownBy w' (some b) :=
  (answer_any b N s n g w h.at_ h.ok hN).mono fun _ _ ⟨he, k⟩ => ⟨he, h.to_ k (h.ok.answer_ n g), k.grown⟩

theorem stop_run (h : Run W w b N s) (hN : N ≤ 1000000000) :
    Calls Try.prog 18 #[.pointer (some ⟨b, 0, none⟩)] w fun e w' => e = .returned (.bool (Ak.fails s)) ∧ Run W w' b (N + 1) (Ak.stop s) ∧ w.grownBy w' (some b) :=
  (stop_any b N s w h.at_ h.ok hN).mono fun _ _ ⟨he, k⟩ => ⟨he, h.to_ k h.ok.stop_, k.grown⟩

theorem open_run (h : Run W w b N s) :
    Calls Try.prog 14 #[.pointer (some ⟨b, 0, none⟩)] w fun e w' => e = .returned (.tuple #[.int .i64 s.opn, .int .i64 s.since]) ∧ Run W w' b N s ∧ Below w.heap.size w w' :=
  (open_any b s w h.at_).mono fun _ _ ⟨he, k⟩ => ⟨he, h.on_ k, k⟩

theorem next_run (h : Run W w b N s) :
    Calls Try.prog 15 #[.pointer (some ⟨b, 0, none⟩)] w fun e w' => e = .returned (.tuple #[.int .i64 (Ak.next s), .bool (Ak.hasNext s)]) ∧ Run W w' b N s ∧ Below w.heap.size w w' :=
  (next_any b N s w h.at_ h.ok).mono fun _ _ ⟨he, k⟩ => ⟨he, h.on_ k, k⟩

theorem clock_run (h : Run W w b N s) :
    Calls Try.prog 16 #[.pointer (some ⟨b, 0, none⟩)] w fun e w' => e = .returned (.int .i64 s.clock) ∧ Run W w' b N s ∧ Below w.heap.size w w' :=
  (clock_any b s w h.at_).mono fun _ _ ⟨he, k⟩ => ⟨he, h.on_ k, k⟩

theorem counts_run (h : Run W w b N s) :
    Calls Try.prog 19 #[.pointer (some ⟨b, 0, none⟩)] w fun e w' => e = .returned (tally s) ∧ Run W w' b N s ∧ Below w.heap.size w w' :=
  (counts_any b s w h.at_).mono fun _ _ ⟨he, k⟩ => ⟨he, h.on_ k, k⟩
end
end Go.Proofs.Ytdbknbgomcabbaa
