/- The throttle's methods at string, walked one by one: each answers, and leaves the throttle, as the plain functions say. Conditions: the receiver is a throttle that was made, its numbers in bounds. -/
import Derived.Test.YthbefhpgpebkgaaRows
import Derived.Test.YthbefhpgpebkgaaMem
import Derived.Test.YthbefhpgpebkgaaPlain
import Derived.Test.YthbefhpgpebkgaaTSA
import Derived.WalkSpells
import Derived.WalkLawsBesides
import Derived.BigQuiet
import Derived.Lib.Hide
namespace Go.Proofs.Ythbefhpgpebkgaa.TS
open Go.RowKit


theorem next_no (b : Nat) (s : Thr.St ByteArray) (w : World) (hb : At w b s) (hw : s.waits = false) :
    Calls Try.prog 32 #[.pointer (some ⟨b, 0, none⟩)] w fun e w' => e = .returned (.tuple #[.int .i64 (Thr.nextAt s), .bool s.waits]) ∧ Below w.heap.size w w' := by
  obtain ⟨width, now, waits, v, handed, last, o, t, l⟩ := s
  have hc := Has.cell hb
  have hf := Has.free hb
  have hlt := Has.lt hb
  have hlt1 : b < w.heap.size + 1 := by omega
  have hlt2 : b < w.heap.size + 1 + 1 := by omega
  unfold cells at hc
  clear hb
  dsimp only at hc hw
  subst hw
  go_enter Try.func32, Try.ntmps32
  go_wp2
  first | go_end0 | refine bodyPost_ret (results_none rfl _ _ _) rfl ?_
  go_wp2
  go_region
  all_goals
    go_wp2
    go_ret2
    exact ⟨rfl, (by repeat (first | exact Below.refl _ _ | refine Below.drew ?_ | refine below_drewN ?_ _ | refine Below.alloc ?_ (by first | exact Nat.le_refl _ | (simp; done) | (simp; omega)) _ | refine Below.setCell ?_ (by first | exact Nat.le_refl _ | (simp; done) | (simp; omega)) _))⟩

set_option maxHeartbeats 400000 in
theorem next_yes (b : Nat) (N : Int) (s : Thr.St ByteArray) (w : World) (hb : At w b s) (hs : Thr.Ok N s) (hw : s.waits = true) :
    Calls Try.prog 32 #[.pointer (some ⟨b, 0, none⟩)] w fun e w' => e = .returned (.tuple #[.int .i64 (Thr.nextAt s), .bool s.waits]) ∧ Below w.heap.size w w' := by
  obtain ⟨width, now, waits, v, handed, last, o, t, l⟩ := s
  obtain ⟨hw0, hw1, hn0, hn1, hl0, hl1, -, -, -, -, -, -⟩ := hs
  have hc := Has.cell hb
  have hf := Has.free hb
  have hlt := Has.lt hb
  have hlt1 : b < w.heap.size + 1 := by omega
  have hlt2 : b < w.heap.size + 1 + 1 := by omega
  unfold cells at hc
  clear hb
  dsimp only at hc hw hw0 hw1 hn0 hn1 hl0 hl1
  subst hw
  have HV : Hid (Thr.nextAt ⟨width, now, true, v, true, last, o, t, l⟩ = max now (last + width)) := by show _ = _; simp [Thr.nextAt]
  cases handed
  · go_enter Try.func32, Try.ntmps32
    go_wp2
    go_end0
    go_wp2
    go_region
    all_goals
      go_wp2
      go_ret2
      exact ⟨rfl, (by repeat (first | exact Below.refl _ _ | refine Below.drew ?_ | refine below_drewN ?_ _ | refine Below.alloc ?_ (by first | exact Nat.le_refl _ | (simp; done) | (simp; omega)) _ | refine Below.setCell ?_ (by first | exact Nat.le_refl _ | (simp; done) | (simp; omega)) _))⟩
  · rcases Int.lt_or_le now (last + width) with hm | hm
    all_goals
      go_enter Try.func32, Try.ntmps32
      go_wp2
      go_region
      go_wp2
      go_end0
      go_wp2
      go_region
      go_wp2
      go_ret2
      refine ⟨?_, (by repeat (first | exact Below.refl _ _ | refine Below.drew ?_ | refine below_drewN ?_ _ | refine Below.alloc ?_ (by first | exact Nat.le_refl _ | (simp; done) | (simp; omega)) _ | refine Below.setCell ?_ (by first | exact Nat.le_refl _ | (simp; done) | (simp; omega)) _))⟩
      rw [HV.out]
      simp
      try omega

theorem next_any (b : Nat) (N : Int) (s : Thr.St ByteArray) (w : World) (hb : At w b s) (hs : Thr.Ok N s) :
    Calls Try.prog 32 #[.pointer (some ⟨b, 0, none⟩)] w fun e w' => e = .returned (.tuple #[.int .i64 (Thr.nextAt s), .bool s.waits]) ∧ Below w.heap.size w w' := by
  rcases hw : s.waits with _ | _
  · rw [← hw]; exact next_no b s w hb hw
  · rw [← hw]; exact next_yes b N s w hb hs hw

end Go.Proofs.Ythbefhpgpebkgaa.TS
