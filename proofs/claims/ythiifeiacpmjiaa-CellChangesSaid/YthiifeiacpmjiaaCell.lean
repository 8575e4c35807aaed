/- A cell in memory, and 'locked': the lock is taken, the function is called, the lock is let go. Conditions: the cell was made, its lock is free. -/
import Derived.Test.YthiifeiacpmjiaaAtom
namespace Go.Proofs.Ythiifeiacpmjiaa
open Go.RowKit
open Go.MuLone

/-- A cell's fields. -/
structure Cel where
  value : Int
  fresh : Bool
  closed : Bool
  version : Int
  lost : Int

/-- A cell's block, lk the lock's word. -/
def cells (lk : Int) (c : Cel) : Array Value :=
  #[.bool true, .int .i32 lk, .int .u32 0, .int .u32 (bit c.closed), .int .i32 0, .int .u32 0, .int .i64 c.value, .int .u32 (bit c.fresh), .int .u32 (bit c.closed), .int .i64 c.version, .int .i64 c.lost]

/-- In world w the cell at block b holds c, its lock free; or held. -/
def At (w : World) (b : Nat) (c : Cel) : Prop := Has w b 56 (cells 0 c)
def Held (w : World) (b : Nat) (c : Cel) : Prop := Has w b 56 (cells 1 c)

section
variable {w w' : World} {b g : Nat} {c c' : Cel} {t : TypeId} {cs : Array Value}
theorem At.hold (h : At w b c) : Held (w.setCell ⟨b, 1, none⟩ (.int .i32 1)) b c := Has.here (t := 56) h 1 _
theorem Held.free_ (h : Held w b c) : At (w.setCell ⟨b, 1, none⟩ (.int .i32 0)) b c := Has.here (t := 56) h 1 _
theorem Held.lk (h : Held w b c) : w.cell? ⟨b, 1, none⟩ = some (.int .i32 1) ∧ w.frozen? ⟨b, 1, none⟩ = false := ⟨Has.cell h 1, Has.free h 1⟩
theorem Has.drewN_ (h : Has w g t cs) (n : Nat) : Has (w.drewN n) g t cs := h
theorem Has.as_ {cs' : Array Value} (h : Has w g t cs) (e : cs = cs') : Has w g t cs' := e ▸ h
end

set_option maxHeartbeats 1000000 in
theorem locked_any (b K : Nat) (caps : Array Value) (c : Cel) (w : World) (Q : World → Prop) (hb : At w b c) (hK : ∀ w, (callFunc K caps).run Try.prog w = .ok (.enter K caps) w)
    (hdo : Calls Try.prog K caps (w.setCell ⟨b, 1, none⟩ (.int .i32 1)) fun e w' => e = .returned (.tuple #[]) ∧ Q w')
    (hQ : ∀ w', Q w' → w'.cell? ⟨b, 1, none⟩ = some (.int .i32 1) ∧ w'.frozen? ⟨b, 1, none⟩ = false) :
    Calls Try.prog 21 #[.pointer (some ⟨b, 0, none⟩), .func (.func K) #[] caps] w fun e w' => e = .returned (.tuple #[]) ∧ ∃ w1, Q w1 ∧ w1.setCell ⟨b, 1, none⟩ (.int .i32 0) = w' := by
  have h1 : w.cell? ⟨b, 1, none⟩ = some (.int .i32 0) := Has.cell hb 1
  have f1 : w.frozen? ⟨b, 1, none⟩ = false := Has.free hb 1
  have HD := Lib.hid hdo
  have HQ := Lib.hid hQ
  clear hdo hQ hb
  go_enter_defers Try.func21, Try.ntmps21
  go_wp2_with (go_at_call 37; refine (lock_free Try.muLib ⟨b, 1, none⟩ _ h1 f1).mono ?_; rintro e w' ⟨rfl, rfl⟩)
  go_wp2_with fail
  refine HD.out.mono ?_
  rintro e w1 ⟨rfl, hq⟩
  obtain ⟨c1, f2⟩ := HQ.out w1 hq
  go_wp2_with fail
  refine leaves_cons (f := 38) (args := #[.pointer (some ⟨b, 1, none⟩)]) (by simp) (by simp [go_sem]) ?_
  refine (unlock_deferred Try.muLib ⟨b, 1, none⟩ .returning _ c1 f2).mono ?_
  rintro e u' w'' ⟨rfl, rfl, rfl⟩
  exact ⟨_, results_none rfl _ _ _, rfl, w1, hq, rfl⟩

end Go.Proofs.Ythiifeiacpmjiaa
