/- 'act', walked: 1 moves the clock to N. Conditions: the throttle and the reference's state in memory, numbers in bounds. -/
import Derived.Test.YthbefhpgpebkgaaRefAct0
namespace Go.Proofs.Ythbefhpgpebkgaa
open Go.RowKit

section
variable {b : Nat} {s : Thr.St Int} {wv hv : Value} {kind n : Int} {w W0 : World} {N : Int} {hs : List Int}

set_option maxRecDepth 100000 in
set_option maxHeartbeats 4000000 in
theorem act_to (s1 : Thr.St Int) (hs1 : Thr.move s n = s1) (hk : kind % 7 = 1) (h : Both W0 w b N s hs wv hv) (hN : N ≤ 1000000) (k0 : 0 ≤ kind) (k1 : kind ≤ 255) :
    Calls Try.prog 49 #[.pointer (some ⟨b, 0, none⟩), .agg #[.int .i64 s.width, .int .i64 s.now, wv, hv, .int .i64 s.offered, .int .i64 s.lost], .agg #[.int .u8 kind, .int .i64 n]] w
      fun e w' => ∃ A m c A' m' c', e = .returned (.tuple #[.agg (rcells s1 (.slice A m c) (.slice A' m' c')), .bool true]) ∧ Both W0 w' b (N + 1) s1 hs (.slice A m c) (.slice A' m' c') ∧ w.grownBy w' (some b) ∧ Later w wv hv (.slice A m c) (.slice A' m' c') := by
  obtain ⟨A1, m1, c1, rfl⟩ := h.ref.wshape
  obtain ⟨A2, c2, rfl⟩ := h.ref.hshape
  have hap := h.ref.apart_ (show w.heap.size ≤ w.heap.size + 1 + 1 by omega)
  have hlen := h.ref.rf.tk
  have ht1 := h.run.ok.t1
  obtain ⟨m2, hm2⟩ : ∃ m2, hs.length = m2 := ⟨_, rfl⟩
  rw [hm2] at h hap ⊢
  have hn0 := h.run.ok.n0
  have hn1 := h.run.ok.n1
  have HB := Lib.hid (Bx.start (s := s) (wv := .slice A1 m1 c1) (hv := .slice A2 m2 c2) (kind := kind) (n := n) w b)
  have hbl : Below w.heap.size w (((w.alloc (.cells #[.int .i64 s.width, .int .i64 s.now, .slice A1 m1 c1, .slice A2 m2 c2, .int .i64 s.offered, .int .i64 s.lost] 81)).alloc (.cells #[.int .u8 kind, .int .i64 n] 58)).alloc (.cells #[.int .i64 0, .int .i64 0, .slice none 0 0, .slice none 0 0, .int .i64 0, .int .i64 0] 81)) :=
    (((Below.refl _ _).alloc (Nat.le_refl _) _).alloc (by simp) _).alloc (by simp; omega) _
  have HH := Lib.hid (h.on_ hbl)
  have hzz : (((w.alloc (.cells #[.int .i64 s.width, .int .i64 s.now, .slice A1 m1 c1, .slice A2 m2 c2, .int .i64 s.offered, .int .i64 s.lost] 81)).alloc (.cells #[.int .u8 kind, .int .i64 n] 58)).alloc (.cells #[.int .i64 0, .int .i64 0, .slice none 0 0, .slice none 0 0, .int .i64 0, .int .i64 0] 81)).heap.size = w.heap.size + 1 + 1 + 1 := by simp
  have HZ := Lib.hid hzz
  have hbz : b < w.heap.size := Has.lt h.run.at_
  have HAP := Lib.hid hap
  have HL : Hid (hs.length ≤ 1000000) := by show _ ≤ _; omega
  have HBS : Hid (b + 1 ≤ (((w.alloc (.cells #[.int .i64 s.width, .int .i64 s.now, .slice A1 m1 c1, .slice A2 m2 c2, .int .i64 s.offered, .int .i64 s.lost] 81)).alloc (.cells #[.int .u8 kind, .int .i64 n] 58)).alloc (.cells #[.int .i64 0, .int .i64 0, .slice none 0 0, .slice none 0 0, .int .i64 0, .int .i64 0] 81)).heap.size) := by show _ ≤ _; rw [hzz]; omega
  have HS1 := Lib.hid hs1
  have d0 : (kind % 7 == 0) = false := by simp; omega
  have d1 : (kind % 7 == 1) = true := by simp; omega
  clear hbl h hm2 hs1 hk hap hlen ht1 hzz
  go_enter Try.func49, Try.ntmps49
  go_wp2_with fail
  obtain ⟨f, hf⟩ : ∃ f, Thr.moveErr s (n) = f := ⟨_, rfl⟩
  refine (rmove_any (n) HH.out.ref).mono ?_
  rintro e w1 ⟨he, hr1, hb1⟩
  rw [HS1.out] at he hr1
  rw [hf] at he
  unfold rcells at he
  subst he
  have HF := Lib.hid hf
  clear hf
  have HN := Lib.hid ((HB.out.on hb1).alloc (.cells #[.int .i64 s1.width, .int .i64 s1.now, .slice A1 m1 c1, .slice A2 m2 c2, .int .i64 s1.offered, .int .i64 s1.lost] 81))
  have HU := Lib.hid ((HH.out.run.on_ hb1).alloc_ (.cells #[.int .i64 s1.width, .int .i64 s1.now, .slice A1 m1 c1, .slice A2 m2 c2, .int .i64 s1.offered, .int .i64 s1.lost] 81))
  have HV := Lib.hid (hr1.on_ ((Below.refl _ _).alloc (Nat.le_refl _) (.cells #[.int .i64 s1.width, .int .i64 s1.now, .slice A1 m1 c1, .slice A2 m2 c2, .int .i64 s1.offered, .int .i64 s1.lost] 81)))
  have HX := Lib.hid (Has.made w1 81 #[.int .i64 s1.width, .int .i64 s1.now, .slice A1 m1 c1, .slice A2 m2 c2, .int .i64 s1.offered, .int .i64 s1.lost])
  have hz1 : w.heap.size + 1 + 1 < w1.heap.size := Has.lt (HB.out.on hb1).r
  clear hr1 hb1
  go_wp2_with fail
  obtain ⟨W2, hW2⟩ : ∃ W2, W2 = w1.alloc (.cells #[.int .i64 s1.width, .int .i64 s1.now, .slice A1 m1 c1, .slice A2 m2 c2, .int .i64 s1.offered, .int .i64 s1.lost] 81) := ⟨_, rfl⟩
  rw [← hW2] at HN HU HV HX ⊢
  clear hW2
  have e0 : W2.cell? ⟨w1.heap.size, 0, none⟩ = some (.int .i64 s1.width) := HX.out.cell 0
  have e1 : W2.cell? ⟨w1.heap.size, 1, none⟩ = some (.int .i64 s1.now) := HX.out.cell 1
  have e2 : W2.cell? ⟨w1.heap.size, 2, none⟩ = some (.slice A1 m1 c1) := HX.out.cell 2
  have e3 : W2.cell? ⟨w1.heap.size, 3, none⟩ = some (.slice A2 m2 c2) := HX.out.cell 3
  have e4 : W2.cell? ⟨w1.heap.size, 4, none⟩ = some (.int .i64 s1.offered) := HX.out.cell 4
  have e5 : W2.cell? ⟨w1.heap.size, 5, none⟩ = some (.int .i64 s1.lost) := HX.out.cell 5
  have x1 : W2.cell? ⟨w.heap.size + 1, 1, none⟩ = some (.int .i64 n) := HN.out.x.cell 1
  have i3 : ¬ w.heap.size = w.heap.size + 1 + 1 := by omega
  have i4 : ¬ w.heap.size + 1 + 1 = w.heap.size := by omega
  have i5 : ¬ w.heap.size + 1 = w.heap.size + 1 + 1 := by omega
  have i6 : ¬ w.heap.size + 1 + 1 = w.heap.size + 1 := by omega
  have i1 : ¬ w1.heap.size = w.heap.size + 1 + 1 := by omega
  have i2 : ¬ w.heap.size + 1 + 1 = w1.heap.size := by omega
  go_region_held3 (fun W => W.cell? ⟨w1.heap.size, 0, none⟩ = some (.int .i64 s1.width) ∧ W.cell? ⟨w1.heap.size, 1, none⟩ = some (.int .i64 s1.now) ∧ W.cell? ⟨w1.heap.size, 2, none⟩ = some (.slice A1 m1 c1) ∧ W.cell? ⟨w1.heap.size, 3, none⟩ = some (.slice A2 m2 c2) ∧ W.cell? ⟨w1.heap.size, 4, none⟩ = some (.int .i64 s1.offered) ∧ W.cell? ⟨w1.heap.size, 5, none⟩ = some (.int .i64 s1.lost) ∧ W.cell? ⟨w.heap.size + 1, 1, none⟩ = some (.int .i64 n))
      (go_keep)
      (first | (go_at_call 16; refine (move_both (n) f s1 HU.out.drew_ HS1.out HF.out).mono ?_; rintro e w3 ⟨rfl, hu3, hg3⟩; have HN3 := Lib.hid (HN.out.drew.turn hg3 hbz); have HX3 := Lib.hid (HX.out.drew.grown hg3 (by simp; omega)); have HB3 := Lib.hid (Both.mk hu3 (HV.out.drew_.grown_ hg3 (Nat.lt_succ_self _))); have r3 := HN3.out.r.cell; have f3 := HN3.out.r.free; have e0 : w3.cell? ⟨w1.heap.size, 0, none⟩ = some (.int .i64 s1.width) := HX3.out.cell 0; have e1 : w3.cell? ⟨w1.heap.size, 1, none⟩ = some (.int .i64 s1.now) := HX3.out.cell 1; have e2 : w3.cell? ⟨w1.heap.size, 2, none⟩ = some (.slice A1 m1 c1) := HX3.out.cell 2; have e3 : w3.cell? ⟨w1.heap.size, 3, none⟩ = some (.slice A2 m2 c2) := HX3.out.cell 3; have e4 : w3.cell? ⟨w1.heap.size, 4, none⟩ = some (.int .i64 s1.offered) := HX3.out.cell 4; have e5 : w3.cell? ⟨w1.heap.size, 5, none⟩ = some (.int .i64 s1.lost) := HX3.out.cell 5; have x1 : w3.cell? ⟨w.heap.size + 1, 1, none⟩ = some (.int .i64 n) := HN3.out.x.cell 1; clear hu3 hg3))
  all_goals
    go_wp2
    exact bodyPost_ret (v := .tuple #[.agg #[.int .i64 s1.width, .int .i64 s1.now, .slice A1 m1 c1, .slice A2 m2 c2, .int .i64 s1.offered, .int .i64 s1.lost], .bool true]) (by simp [results, Try.results49, go_sem, r3]) rfl ⟨_, _, _, _, _, _, rfl, (HB3.out.more_ (by omega)).set6_ HAP.out (by omega) _ _ _ _ _ _, HN3.out.end_ _ _ _ _ _ _, fun _ _ h => h⟩
end
end Go.Proofs.Ythbefhpgpebkgaa
