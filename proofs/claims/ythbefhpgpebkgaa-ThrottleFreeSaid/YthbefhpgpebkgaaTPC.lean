/- The throttle's methods at [2]int, walked one by one: each answers, and leaves the throttle, as the plain functions say. Conditions: the receiver is a throttle that was made, its numbers in bounds. -/
import Derived.Test.YthbefhpgpebkgaaRows
import Derived.Test.YthbefhpgpebkgaaMem
import Derived.Test.YthbefhpgpebkgaaPlain
import Derived.Test.YthbefhpgpebkgaaTPB
import Derived.WalkSpells
import Derived.WalkLawsBesides
import Derived.BigQuiet
import Derived.Lib.Hide
namespace Go.Proofs.Ythbefhpgpebkgaa.TP
open Go.RowKit

set_option maxHeartbeats 400000 in
theorem ready_any (b : Nat) (N : Int) (s : Thr.St (Int × Int)) (w : World) (hb : At w b s) (hs : Thr.Ok N s) :
    Calls Try.prog 43 #[.pointer (some ⟨b, 0, none⟩)] w fun e w' => e = .returned (.bool (Thr.ready s)) ∧ Below w.heap.size w w' := by
  have HB := Lib.hid hb
  have hlt := Has.lt hb
  clear hb
  rcases hw : s.waits with _ | _
  all_goals
    have HV : Hid (Thr.ready s = (s.waits && decide (Thr.nextAt s = s.now))) := by show _ = _; rfl
    go_enter Try.func43, Try.ntmps43
    go_wp2_with (go_at_call 60; go_must (refine (next_any b N s _ HB.out hs).mono ?_; rintro e w1 ⟨rfl, h1⟩; have c2 : w1.cell? ⟨b, 2, none⟩ = some (.int .i64 s.now) := (Has.below (t := 76) HB.out h1 hlt).cell 2; have H1 := Lib.hid h1; clear h1))
    go_ret
    refine ⟨?_, H1.out⟩
    rw [HV.out]
    simp [hw] <;> rfl

set_option maxHeartbeats 800000 in
theorem take_any (b : Nat) (N : Int) (s : Thr.St (Int × Int)) (w : World) (hb : At w b s) (hs : Thr.Ok N s) (hN : N ≤ 1000000000) :
    Calls Try.prog 21 #[.pointer (some ⟨b, 0, none⟩)] w fun e w' => e = .returned (.tuple #[.agg #[.int .i64 (Thr.taken (0, 0) s).1, .int .i64 (Thr.taken (0, 0) s).2], .bool (Thr.ready s)]) ∧ To w w' b (Thr.take (0, 0) s) := by
  have HB := Lib.hid hb
  have hlt := Has.lt hb
  have t0 := hs.t0
  have t1 := hs.t1
  clear hb
  have hbl : Below w.heap.size w (((w.alloc (.cells #[.int .i64 0, .int .i64 0] 42)).alloc (.cells #[.int .i64 0, .int .i64 0] 42)).alloc (.cells #[.int .i64 0, .int .i64 0] 42)) :=
    (((Below.refl _ _).alloc (Nat.le_refl _) _).alloc (by simp) _).alloc (by simp; omega) _
  have HBL := Lib.hid hbl
  clear hbl
  have z0 := ((Has.made w 42 #[.int .i64 0, .int .i64 0]).alloc (.cells #[.int .i64 0, .int .i64 0] 42)).alloc (.cells #[.int .i64 0, .int .i64 0] 42)
  have z1 : Has (((w.alloc (.cells #[.int .i64 0, .int .i64 0] 42)).alloc (.cells #[.int .i64 0, .int .i64 0] 42)).alloc (.cells #[.int .i64 0, .int .i64 0] 42)) (w.heap.size + 1) 42 #[.int .i64 0, .int .i64 0] := by
    have h := (Has.made (w.alloc (.cells #[.int .i64 0, .int .i64 0] 42)) 42 #[.int .i64 0, .int .i64 0]).alloc (.cells #[.int .i64 0, .int .i64 0] 42)
    simpa using h
  have z2 : Has (((w.alloc (.cells #[.int .i64 0, .int .i64 0] 42)).alloc (.cells #[.int .i64 0, .int .i64 0] 42)).alloc (.cells #[.int .i64 0, .int .i64 0] 42)) (w.heap.size + 1 + 1) 42 #[.int .i64 0, .int .i64 0] := by
    have h := Has.made ((w.alloc (.cells #[.int .i64 0, .int .i64 0] 42)).alloc (.cells #[.int .i64 0, .int .i64 0] 42)) 42 #[.int .i64 0, .int .i64 0]
    simpa using h
  have Z0 := Lib.hid z0
  have Z1 := Lib.hid z1
  have Z2 := Lib.hid z2
  clear z0 z1 z2
  rcases hr : Thr.ready s with _ | _
  · have e1 : Thr.taken (0, 0) s = (0, 0) := by simp [Thr.taken, hr]
    have e2 : Thr.take (0, 0) s = s := by simp [Thr.take, hr]
    rw [e1, e2]
    clear e1 e2
    go_enter Try.func21, Try.ntmps21
    go_wp2_with fail
    refine (ready_any b N s _ (Has.below HB.out HBL.out hlt) hs).mono ?_
    rintro e w1 ⟨rfl, h1⟩
    have c0 := (Has.below Z0.out h1 (by simp; omega)).cell
    have f0 := (Has.below Z0.out h1 (by simp; omega)).free
    have c2 := (Has.below Z2.out h1 (by simp)).cell
    have H1 := Lib.hid h1
    clear h1
    go_wp2
    refine bodyPost_ret (v := .tuple #[.agg #[.int .i64 0, .int .i64 0], .bool false]) (by simp [results, Try.results21, go_sem, c0]) rfl ⟨rfl, ?_⟩
    have hB1 : Below w.heap.size w w1 := HBL.out.trans (H1.out.mono HBL.out.size)
    exact ((Turned.since_ hB1 (Turned.begin_ (Has.below HB.out hB1 hlt))).new_ hlt _ _ (Nat.le_refl _) _).new_ hlt _ _ (Nat.le_refl _) _
  · have e1 : Thr.taken (0, 0) s = s.v := by simp [Thr.taken, hr]
    have e2 : Thr.take (0, 0) s = { s with waits := false, v := (0, 0), handed := true, last := s.now, taken := s.taken + 1 } := by simp [Thr.take, hr]
    rw [e1, e2]
    clear e1 e2
    go_enter Try.func21, Try.ntmps21
    go_wp2_with fail
    refine (ready_any b N s _ (Has.below HB.out HBL.out hlt) hs).mono ?_
    rintro e w1 ⟨rfl, h1⟩
    have c0 := (Has.below Z0.out h1 (by simp; omega)).cell
    have f0 := (Has.below Z0.out h1 (by simp; omega)).free
    have c1 := (Has.below Z1.out h1 (by simp)).cell
    have f1 := (Has.below Z1.out h1 (by simp)).free
    have c2 := (Has.below Z2.out h1 (by simp)).cell
    have hB1 : Below w.heap.size w w1 := HBL.out.trans (h1.mono HBL.out.size)
    have hc := (Has.below (t := 76) HB.out hB1 hlt).cell
    have hf := (Has.below (t := 76) HB.out hB1 hlt).free
    unfold cells at hc
    have H1 := Lib.hid hB1
    clear h1 hB1
    go_wp2
    go_region
    go_wp2
    have T0 : Turned w w1 b 76 (cells s) := Turned.since_ H1.out (Turned.begin_ (Has.below HB.out H1.out hlt))
    have T1 := (T0.new_ hlt (w.heap.size + 1) 0 (by omega) (.int .i64 s.v.1)).new_ hlt (w.heap.size + 1) 1 (by omega) (.int .i64 s.v.2)
    have T2 := (((((T1.here_ 4 (.int .i64 0)).here_ 5 (.int .i64 0)).here_ 3 (.bool false)).here_ 6 (.bool true)).here_ 7 (.int .i64 s.now)).here_ 9 (.int .i64 (s.taken + 1))
    have T3 := ((T2.new_ hlt w.heap.size 0 (Nat.le_refl _) (.int .i64 s.v.1)).new_ hlt w.heap.size 1 (Nat.le_refl _) (.int .i64 s.v.2)).drew_
    have HT := Lib.hid T3
    clear T0 T1 T2 T3
    exact bodyPost_ret (v := .tuple #[.agg #[.int .i64 s.v.1, .int .i64 s.v.2], .bool true]) (by simp [results, Try.results21, go_sem, c0]) rfl ⟨rfl, Turned.conv_ HT.out rfl⟩

end Go.Proofs.Ythbefhpgpebkgaa.TP
