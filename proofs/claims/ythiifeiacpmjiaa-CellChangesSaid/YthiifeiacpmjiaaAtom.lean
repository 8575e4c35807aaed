/- sync/atomic's methods that a cell uses, each by what it leaves. Conditions: the cell that is named holds a number of its kind, and is not frozen where it is written. -/
import Derived.Test.YthiifeiacpmjiaaLocks
import Derived.Test.YthiifeiacpmjiaaMem
import Derived.Laws.LoneSync
import Derived.RegionCalls
import Derived.Deep.RegionHeld3
import Derived.Defers
import Derived.WalkSpells
import Derived.WalkLawsBesides
import Derived.BigQuiet
import Derived.IntWalk
import Derived.Outline
import Derived.Lib.Hide
namespace Go.Proofs.Ythiifeiacpmjiaa
open Go.RowKit

theorem run_call_swap {P : Program} {f : Nat} {fn : Func} (hf : P.funcs[f]? = some fn) (hname : (fn.name == "runtime.NumGoroutine") = false) (hb : fn.body.isNone = true) (hn : Extern.findNext fn = none) (k : IntKind)
    (he : Extern.find fn = some (Extern.Atomic.swapT (.int k))) {a : Addr} {x y : Int} {w : World} (hc : w.cell? a = some (.int k x)) (hz : w.frozen? a = false) :
    (callFunc f #[.pointer (some a), .int k y]).run P w = .ok (.value (.int k x)) (w.setCell a (.int k y)) := by
  rw [run_callFunc_extern hf hname hb hn he]
  change (Sem.run P (do
    let a' ← asAddr (.pointer (some a))
    let old ← Extern.Atomic.read (.int k) a'
    store a' (.int k y) .atomic
    pure old) w).andThen _ = _
  simp [Extern.Atomic.read, asAddr, hc, hz, run_store P w a (.int k y) .atomic rfl, Result.andThen]

/-- 0 or 1. -/
def bit (x : Bool) : Int := if x then 1 else 0
theorem bit_ne (x : Bool) : (bit x != 0) = x := by cases x <;> rfl

theorem b32_any (x : Bool) (w : World) : Calls Try.prog 40 #[.bool x] w fun e w' => e = .returned (.int .u32 (bit x)) ∧ w = w' := by
  cases x
  all_goals
    go_enter Try.func40, Try.ntmps40
    go_wp2
    go_ret
    exact ⟨rfl, rfl⟩

theorem load64_any (b k : Nat) (x : Int) (w : World) (hc : w.cell? ⟨b, k, none⟩ = some (.int .i64 x)) : Calls Try.prog 24 #[.pointer (some ⟨b, k, none⟩)] w fun e w' => e = .returned (.int .i64 x) ∧ w = w' := by
  have hl := run_call_load (P := Try.prog) Try.func41 (by kernel_rfl) (by kernel_rfl) (by kernel_rfl) .i64 (by kernel_rfl) hc
  go_enter Try.func24, Try.ntmps24
  go_wp2
  go_ret
  exact ⟨rfl, rfl⟩

theorem loadB_any (b k : Nat) (x : Bool) (w : World) (hc : w.cell? ⟨b, k, none⟩ = some (.int .u32 (bit x))) : Calls Try.prog 27 #[.pointer (some ⟨b, k, none⟩)] w fun e w' => e = .returned (.bool x) ∧ w = w' := by
  have hl := run_call_load (P := Try.prog) Try.func42 (by kernel_rfl) (by kernel_rfl) (by kernel_rfl) .u32 (by kernel_rfl) hc
  have hn := bit_ne x
  go_enter Try.func27, Try.ntmps27
  go_wp2
  go_ret
  exact ⟨rfl, rfl⟩

theorem add64_any (b k : Nat) (x y : Int) (w : World) (hc : w.cell? ⟨b, k, none⟩ = some (.int .i64 x)) (hz : w.frozen? ⟨b, k, none⟩ = false) (h0 : -9223372036854775808 ≤ x + y) (h1 : x + y ≤ 9223372036854775807) :
    Calls Try.prog 36 #[.pointer (some ⟨b, k, none⟩), .int .i64 y] w fun e w' => e = .returned (.int .i64 (x + y)) ∧ w.setCell ⟨b, k, none⟩ (.int .i64 (x + y)) = w' := by
  have hw : IntKind.i64.wrap (x + y) = x + y := IntWalk.i64_in _ ⟨h0, h1⟩
  have hl := run_call_add (P := Try.prog) Try.func45 (by kernel_rfl) (by kernel_rfl) (by kernel_rfl) .i64 (by kernel_rfl) (s := x + y) (y := y) hc hz (by simp [go_sem, hw])
  clear hw
  go_enter Try.func36, Try.ntmps36
  go_wp2
  go_ret
  exact ⟨rfl, rfl⟩

theorem swapB_any (b k : Nat) (x y : Bool) (w : World) (hc : w.cell? ⟨b, k, none⟩ = some (.int .u32 (bit x))) (hz : w.frozen? ⟨b, k, none⟩ = false) :
    Calls Try.prog 23 #[.pointer (some ⟨b, k, none⟩), .bool y] w fun e w' => e = .returned (.bool x) ∧ (w.setCell ⟨b, k, none⟩ (.int .u32 (bit y))).drew = w' := by
  have hl := run_call_swap (P := Try.prog) Try.func39 (by kernel_rfl) (by kernel_rfl) (by kernel_rfl) .u32 (by kernel_rfl) (w := w.drew) (y := bit y) (a := ⟨b, k, none⟩) hc hz
  have hn := bit_ne x
  go_enter Try.func23, Try.ntmps23
  go_wp2
  go_region_with (first | (go_at_call 40; refine (b32_any y _).mono ?_; rintro e w9 ⟨rfl, rfl⟩))
  go_wp2
  go_ret
  exact ⟨rfl, rfl⟩

theorem storeB_any (b k : Nat) (u : Value) (y : Bool) (w : World) (hc : w.cell? ⟨b, k, none⟩ = some u) (hz : w.frozen? ⟨b, k, none⟩ = false) :
    Calls Try.prog 33 #[.pointer (some ⟨b, k, none⟩), .bool y] w fun e w' => e = .returned (.tuple #[]) ∧ (w.setCell ⟨b, k, none⟩ (.int .u32 (bit y))).drew = w' := by
  have hl := run_call_store (P := Try.prog) Try.func44 (by kernel_rfl) (by kernel_rfl) (by kernel_rfl) (by kernel_rfl) (w := w.drew) (k := .u32) (y := bit y) (a := ⟨b, k, none⟩) hc hz
  go_enter Try.func33, Try.ntmps33
  go_wp2
  go_region_with (first | (go_at_call 40; refine (b32_any y _).mono ?_; rintro e w9 ⟨rfl, rfl⟩))
  go_wp2
  go_end0
  exact ⟨rfl, rfl⟩
end Go.Proofs.Ythiifeiacpmjiaa
