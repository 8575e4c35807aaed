/- The throttle's methods at int, walked one by one: each answers, and leaves the throttle, as the plain functions say. Conditions: the receiver is a throttle that was made, its numbers in bounds. -/
import Derived.Test.YthbefhpgpebkgaaRows
import Derived.Test.YthbefhpgpebkgaaMem
import Derived.Test.YthbefhpgpebkgaaPlain
import Derived.Test.YthbefhpgpebkgaaTIB
import Derived.WalkSpells
import Derived.WalkLawsBesides
import Derived.BigQuiet
import Derived.Lib.Hide
namespace Go.Proofs.Ythbefhpgpebkgaa.TI
open Go.RowKit

set_option maxHeartbeats 400000 in
theorem ready_any (b : Nat) (N : Int) (s : Thr.St Int) (w : World) (hb : At w b s) (hs : Thr.Ok N s) :
    Calls Try.prog 15 #[.pointer (some ⟨b, 0, none⟩)] w fun e w' => e = .returned (.bool (Thr.ready s)) ∧ Below w.heap.size w w' := by
  have HB := Lib.hid hb
  have hlt := Has.lt hb
  clear hb
  rcases hw : s.waits with _ | _
  all_goals
    have HV : Hid (Thr.ready s = (s.waits && decide (Thr.nextAt s = s.now))) := by show _ = _; rfl
    go_enter Try.func15, Try.ntmps15
    go_wp2_with (go_at_call 14; go_must (refine (next_any b N s _ HB.out hs).mono ?_; rintro e w1 ⟨rfl, h1⟩; have c2 : w1.cell? ⟨b, 2, none⟩ = some (.int .i64 s.now) := (Has.below (t := 60) HB.out h1 hlt).cell 2; have H1 := Lib.hid h1; clear h1))
    go_ret
    refine ⟨?_, H1.out⟩
    rw [HV.out]
    simp [hw] <;> rfl

set_option maxHeartbeats 400000 in
theorem take_any (b : Nat) (N : Int) (s : Thr.St Int) (w : World) (hb : At w b s) (hs : Thr.Ok N s) (hN : N ≤ 1000000000) :
    Calls Try.prog 17 #[.pointer (some ⟨b, 0, none⟩)] w fun e w' => e = .returned (.tuple #[.int .i64 (Thr.taken 0 s), .bool (Thr.ready s)]) ∧ To w w' b (Thr.take 0 s) := by
  have HB := Lib.hid hb
  have hlt := Has.lt hb
  have t0 := hs.t0
  have t1 := hs.t1
  clear hb
  rcases hr : Thr.ready s with _ | _
  · have e1 : Thr.taken 0 s = 0 := by simp [Thr.taken, hr]
    have e2 : Thr.take 0 s = s := by simp [Thr.take, hr]
    rw [e1, e2]
    clear e1 e2
    go_enter Try.func17, Try.ntmps17
    go_wp2_with (go_at_call 15; refine (ready_any b N s _ HB.out hs).mono ?_; rintro e w1 ⟨rfl, h1⟩; have H1 := Lib.hid h1; clear h1)
    go_ret2
    exact ⟨rfl, Turned.since_ H1.out (Turned.begin_ (Has.below HB.out H1.out hlt))⟩
  · have e1 : Thr.taken 0 s = s.v := by simp [Thr.taken, hr]
    have e2 : Thr.take 0 s = { s with waits := false, v := 0, handed := true, last := s.now, taken := s.taken + 1 } := by simp [Thr.take, hr]
    rw [e1, e2]
    clear e1 e2
    go_enter Try.func17, Try.ntmps17
    go_wp2_with (go_at_call 15; refine (ready_any b N s _ HB.out hs).mono ?_; rintro e w1 ⟨rfl, h1⟩; have hc := (Has.below (t := 60) HB.out h1 hlt).cell; have hf := (Has.below (t := 60) HB.out h1 hlt).free; unfold cells at hc; have H1 := Lib.hid h1; clear h1)
    go_ret2
    exact ⟨rfl, Turned.since_ H1.out (Turned.conv_ (Turned.here_ (Turned.here_ (Turned.here_ (Turned.here_ (Turned.here_ (Turned.begin_ (Has.below HB.out H1.out hlt)) 4 _) 3 _) 5 _) 6 _) 8 _) rfl)⟩

end Go.Proofs.Ythbefhpgpebkgaa.TI
