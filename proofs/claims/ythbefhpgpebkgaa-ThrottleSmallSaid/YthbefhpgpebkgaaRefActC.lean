/- 'act', walked: 2, 3 offer N. Conditions: the throttle and the reference's state in memory, numbers in bounds. -/
import Derived.Test.YthbefhpgpebkgaaRefAct0
namespace Go.Proofs.Ythbefhpgpebkgaa
open Go.RowKit

section
variable {b : Nat} {s : Thr.St Int} {wv hv : Value} {kind n : Int} {w W0 : World} {N : Int} {hs : List Int}

set_option maxRecDepth 100000 in
set_option maxHeartbeats 4000000 in
theorem act_offer (s1 : Thr.St Int) (hs1 : Thr.offer s n = s1) (hk : kind % 7 = 2 ∨ kind % 7 = 3) (h : Both W0 w b N s hs wv hv) (hN : N ≤ 1000000) (k0 : 0 ≤ kind) (k1 : kind ≤ 255) :
    Calls Try.prog 49 #[.pointer (some ⟨b, 0, none⟩), .agg #[.int .i64 s.width, .int .i64 s.now, wv, hv, .int .i64 s.offered, .int .i64 s.lost], .agg #[.int .u8 kind, .int .i64 n]] w
      fun e w' => ∃ A m c A' m' c', e = .returned (.tuple #[.agg (rcells s1 (.slice A m c) (.slice A' m' c')), .bool true]) ∧ Both W0 w' b (N + 1) s1 hs (.slice A m c) (.slice A' m' c') ∧ w.grownBy w' (some b) ∧ Later w wv hv (.slice A m c) (.slice A' m' c') := by
  rcases hk with hk | hk
  · obtain ⟨A1, m1, c1, rfl⟩ := h.ref.wshape
    obtain ⟨A2, c2, rfl⟩ := h.ref.hshape
    have hap := h.ref.apart_ (show w.heap.size ≤ w.heap.size + 1 + 1 by omega)
    have hlen := h.ref.rf.tk
    have ht1 := h.run.ok.t1
    obtain ⟨m2, hm2⟩ : ∃ m2, hs.length = m2 := ⟨_, rfl⟩
    rw [hm2] at h hap ⊢
    have hn0 := h.run.ok.n0
    have hn1 := h.run.ok.n1
    have HB := Lib.hid (Bx.start (s := s) (wv := .slice A1 m1 c1) (hv := .slice A2 m2 c2) (kind := kind) (n := n) w b)
    have hbl : Below w.heap.size w (((w.alloc (.cells #[.int .i64 s.width, .int .i64 s.now, .slice A1 m1 c1, .slice A2 m2 c2, .int .i64 s.offered, .int .i64 s.lost] 81)).alloc (.cells #[.int .u8 kind, .int .i64 n] 58)).alloc (.cells #[.int .i64 0, .int .i64 0, .slice none 0 0, .slice none 0 0, .int .i64 0, .int .i64 0] 81)) :=
      (((Below.refl _ _).alloc (Nat.le_refl _) _).alloc (by simp) _).alloc (by simp; omega) _
    have HH := Lib.hid (h.on_ hbl)
    have hzz : (((w.alloc (.cells #[.int .i64 s.width, .int .i64 s.now, .slice A1 m1 c1, .slice A2 m2 c2, .int .i64 s.offered, .int .i64 s.lost] 81)).alloc (.cells #[.int .u8 kind, .int .i64 n] 58)).alloc (.cells #[.int .i64 0, .int .i64 0, .slice none 0 0, .slice none 0 0, .int .i64 0, .int .i64 0] 81)).heap.size = w.heap.size + 1 + 1 + 1 := by simp
    have HZ := Lib.hid hzz
    have hbz : b < w.heap.size := Has.lt h.run.at_
    have HAP := Lib.hid hap
    have HL : Hid (hs.length ≤ 1000000) := by show _ ≤ _; omega
    have HBS : Hid (b + 1 ≤ (((w.alloc (.cells #[.int .i64 s.width, .int .i64 s.now, .slice A1 m1 c1, .slice A2 m2 c2, .int .i64 s.offered, .int .i64 s.lost] 81)).alloc (.cells #[.int .u8 kind, .int .i64 n] 58)).alloc (.cells #[.int .i64 0, .int .i64 0, .slice none 0 0, .slice none 0 0, .int .i64 0, .int .i64 0] 81)).heap.size) := by show _ ≤ _; rw [hzz]; omega
    have HS1 := Lib.hid hs1
    have d0 : (kind % 7 == 0) = false := by simp; omega
    have d1 : (kind % 7 == 1) = false := by simp; omega
    have d2 : (kind % 7 == 2) = true := by simp; omega
    clear hbl h hm2 hs1 hk hap hlen ht1 hzz
    go_enter Try.func49, Try.ntmps49
    go_wp2_with fail
    obtain ⟨W2, hW2⟩ : ∃ W2, W2 = (((w.alloc (.cells #[.int .i64 s.width, .int .i64 s.now, .slice A1 m1 c1, .slice A2 m2 c2, .int .i64 s.offered, .int .i64 s.lost] 81)).alloc (.cells #[.int .u8 kind, .int .i64 n] 58)).alloc (.cells #[.int .i64 0, .int .i64 0, .slice none 0 0, .slice none 0 0, .int .i64 0, .int .i64 0] 81)) := ⟨_, rfl⟩
    rw [← hW2] at HB HH HZ HBS ⊢
    clear hW2
    have e0 : W2.cell? ⟨w.heap.size, 0, none⟩ = some (.int .i64 s.width) := HB.out.p.cell 0
    have e1 : W2.cell? ⟨w.heap.size, 1, none⟩ = some (.int .i64 s.now) := HB.out.p.cell 1
    have e2 : W2.cell? ⟨w.heap.size, 2, none⟩ = some (.slice A1 m1 c1) := HB.out.p.cell 2
    have e3 : W2.cell? ⟨w.heap.size, 3, none⟩ = some (.slice A2 m2 c2) := HB.out.p.cell 3
    have e4 : W2.cell? ⟨w.heap.size, 4, none⟩ = some (.int .i64 s.offered) := HB.out.p.cell 4
    have e5 : W2.cell? ⟨w.heap.size, 5, none⟩ = some (.int .i64 s.lost) := HB.out.p.cell 5
    have x1 : W2.cell? ⟨w.heap.size + 1, 1, none⟩ = some (.int .i64 n) := HB.out.x.cell 1
    have i3 : ¬ w.heap.size = w.heap.size + 1 + 1 := by omega
    have i4 : ¬ w.heap.size + 1 + 1 = w.heap.size := by omega
    have i5 : ¬ w.heap.size + 1 = w.heap.size + 1 + 1 := by omega
    have i6 : ¬ w.heap.size + 1 + 1 = w.heap.size + 1 := by omega
    go_region_held3 (fun W => W.cell? ⟨w.heap.size, 0, none⟩ = some (.int .i64 s.width) ∧ W.cell? ⟨w.heap.size, 1, none⟩ = some (.int .i64 s.now) ∧ W.cell? ⟨w.heap.size, 2, none⟩ = some (.slice A1 m1 c1) ∧ W.cell? ⟨w.heap.size, 3, none⟩ = some (.slice A2 m2 c2) ∧ W.cell? ⟨w.heap.size, 4, none⟩ = some (.int .i64 s.offered) ∧ W.cell? ⟨w.heap.size, 5, none⟩ = some (.int .i64 s.lost) ∧ W.cell? ⟨w.heap.size + 1, 1, none⟩ = some (.int .i64 n))
        (go_keep)
        (first
          | (go_at_call 63; refine (roffer_any n HH.out.ref.drew_ HH.out.run.ok (by omega) HBS.out).mono ?_; rintro e w4 ⟨A3, m3, c3, he, hr4, hb4, hl4⟩; rw [HS1.out] at he hr4; unfold rcells at he; subst he; have HU4 := Lib.hid (HH.out.run.drew_.on_ hb4); have HN4 := Lib.hid (HB.out.drew.on hb4); have HR4 := Lib.hid hr4; have HP4 := Lib.hid (hl4 (w.heap.size + 1 + 1) (by have := HZ.out; simp only [World.drew] at this ⊢; omega) HAP.out); have HLT : Hid (Later w (.slice A1 m1 c1) (.slice A2 m2 c2) (.slice A3 m3 c3) (.slice A2 m2 c2)) := Lib.hid fun g hg ha => hl4 g (by have := HZ.out; simp only [World.drew] at this ⊢; omega) ha; clear hr4 hb4 hl4; have e0 : w4.cell? ⟨w.heap.size, 0, none⟩ = some (.int .i64 s.width) := HN4.out.p.cell 0; have e1 : w4.cell? ⟨w.heap.size, 1, none⟩ = some (.int .i64 s.now) := HN4.out.p.cell 1; have e2 : w4.cell? ⟨w.heap.size, 2, none⟩ = some (.slice A1 m1 c1) := HN4.out.p.cell 2; have e3 : w4.cell? ⟨w.heap.size, 3, none⟩ = some (.slice A2 m2 c2) := HN4.out.p.cell 3; have e4 : w4.cell? ⟨w.heap.size, 4, none⟩ = some (.int .i64 s.offered) := HN4.out.p.cell 4; have e5 : w4.cell? ⟨w.heap.size, 5, none⟩ = some (.int .i64 s.lost) := HN4.out.p.cell 5; have x1 : w4.cell? ⟨w.heap.size + 1, 1, none⟩ = some (.int .i64 n) := HN4.out.x.cell 1; have r3 := HN4.out.r.cell; have f3 := HN4.out.r.free)
          | (go_at_call 13; refine (TI.offer_run n HU4.out (by omega)).mono ?_; rintro e w5 ⟨rfl, hu5, hg5⟩; rw [HS1.out] at hu5; have HN5 := Lib.hid (HN4.out.turn hg5 hbz); have HB6 := Lib.hid (Both.mk hu5 (HR4.out.grown_ hg5 (Nat.lt_succ_self _))); clear hu5 hg5; have e0 : w5.cell? ⟨w.heap.size, 0, none⟩ = some (.int .i64 s.width) := HN5.out.p.cell 0; have e1 : w5.cell? ⟨w.heap.size, 1, none⟩ = some (.int .i64 s.now) := HN5.out.p.cell 1; have e2 : w5.cell? ⟨w.heap.size, 2, none⟩ = some (.slice A1 m1 c1) := HN5.out.p.cell 2; have e3 : w5.cell? ⟨w.heap.size, 3, none⟩ = some (.slice A2 m2 c2) := HN5.out.p.cell 3; have e4 : w5.cell? ⟨w.heap.size, 4, none⟩ = some (.int .i64 s.offered) := HN5.out.p.cell 4; have e5 : w5.cell? ⟨w.heap.size, 5, none⟩ = some (.int .i64 s.lost) := HN5.out.p.cell 5; have x1 : w5.cell? ⟨w.heap.size + 1, 1, none⟩ = some (.int .i64 n) := HN5.out.x.cell 1; have r3 := HN5.out.r.cell; have f3 := HN5.out.r.free))
    all_goals
      go_wp2
      exact bodyPost_ret (v := .tuple #[.agg #[.int .i64 s1.width, .int .i64 s1.now, .slice A3 m3 c3, .slice A2 m2 c2, .int .i64 s1.offered, .int .i64 s1.lost], .bool true]) (by simp [results, Try.results49, go_sem, r3]) rfl ⟨_, _, _, _, _, _, rfl, (HB6.out).set6_ HP4.out (by omega) _ _ _ _ _ _, HN5.out.end_ _ _ _ _ _ _, HLT.out⟩
  · obtain ⟨A1, m1, c1, rfl⟩ := h.ref.wshape
    obtain ⟨A2, c2, rfl⟩ := h.ref.hshape
    have hap := h.ref.apart_ (show w.heap.size ≤ w.heap.size + 1 + 1 by omega)
    have hlen := h.ref.rf.tk
    have ht1 := h.run.ok.t1
    obtain ⟨m2, hm2⟩ : ∃ m2, hs.length = m2 := ⟨_, rfl⟩
    rw [hm2] at h hap ⊢
    have hn0 := h.run.ok.n0
    have hn1 := h.run.ok.n1
    have HB := Lib.hid (Bx.start (s := s) (wv := .slice A1 m1 c1) (hv := .slice A2 m2 c2) (kind := kind) (n := n) w b)
    have hbl : Below w.heap.size w (((w.alloc (.cells #[.int .i64 s.width, .int .i64 s.now, .slice A1 m1 c1, .slice A2 m2 c2, .int .i64 s.offered, .int .i64 s.lost] 81)).alloc (.cells #[.int .u8 kind, .int .i64 n] 58)).alloc (.cells #[.int .i64 0, .int .i64 0, .slice none 0 0, .slice none 0 0, .int .i64 0, .int .i64 0] 81)) :=
      (((Below.refl _ _).alloc (Nat.le_refl _) _).alloc (by simp) _).alloc (by simp; omega) _
    have HH := Lib.hid (h.on_ hbl)
    have hzz : (((w.alloc (.cells #[.int .i64 s.width, .int .i64 s.now, .slice A1 m1 c1, .slice A2 m2 c2, .int .i64 s.offered, .int .i64 s.lost] 81)).alloc (.cells #[.int .u8 kind, .int .i64 n] 58)).alloc (.cells #[.int .i64 0, .int .i64 0, .slice none 0 0, .slice none 0 0, .int .i64 0, .int .i64 0] 81)).heap.size = w.heap.size + 1 + 1 + 1 := by simp
    have HZ := Lib.hid hzz
    have hbz : b < w.heap.size := Has.lt h.run.at_
    have HAP := Lib.hid hap
    have HL : Hid (hs.length ≤ 1000000) := by show _ ≤ _; omega
    have HBS : Hid (b + 1 ≤ (((w.alloc (.cells #[.int .i64 s.width, .int .i64 s.now, .slice A1 m1 c1, .slice A2 m2 c2, .int .i64 s.offered, .int .i64 s.lost] 81)).alloc (.cells #[.int .u8 kind, .int .i64 n] 58)).alloc (.cells #[.int .i64 0, .int .i64 0, .slice none 0 0, .slice none 0 0, .int .i64 0, .int .i64 0] 81)).heap.size) := by show _ ≤ _; rw [hzz]; omega
    have HS1 := Lib.hid hs1
    have d0 : (kind % 7 == 0) = false := by simp; omega
    have d1 : (kind % 7 == 1) = false := by simp; omega
    have d2 : (kind % 7 == 2) = false := by simp; omega
    have d3 : (kind % 7 == 3) = true := by simp; omega
    clear hbl h hm2 hs1 hk hap hlen ht1 hzz
    go_enter Try.func49, Try.ntmps49
    go_wp2_with fail
    obtain ⟨W2, hW2⟩ : ∃ W2, W2 = (((w.alloc (.cells #[.int .i64 s.width, .int .i64 s.now, .slice A1 m1 c1, .slice A2 m2 c2, .int .i64 s.offered, .int .i64 s.lost] 81)).alloc (.cells #[.int .u8 kind, .int .i64 n] 58)).alloc (.cells #[.int .i64 0, .int .i64 0, .slice none 0 0, .slice none 0 0, .int .i64 0, .int .i64 0] 81)) := ⟨_, rfl⟩
    rw [← hW2] at HB HH HZ HBS ⊢
    clear hW2
    have e0 : W2.cell? ⟨w.heap.size, 0, none⟩ = some (.int .i64 s.width) := HB.out.p.cell 0
    have e1 : W2.cell? ⟨w.heap.size, 1, none⟩ = some (.int .i64 s.now) := HB.out.p.cell 1
    have e2 : W2.cell? ⟨w.heap.size, 2, none⟩ = some (.slice A1 m1 c1) := HB.out.p.cell 2
    have e3 : W2.cell? ⟨w.heap.size, 3, none⟩ = some (.slice A2 m2 c2) := HB.out.p.cell 3
    have e4 : W2.cell? ⟨w.heap.size, 4, none⟩ = some (.int .i64 s.offered) := HB.out.p.cell 4
    have e5 : W2.cell? ⟨w.heap.size, 5, none⟩ = some (.int .i64 s.lost) := HB.out.p.cell 5
    have x1 : W2.cell? ⟨w.heap.size + 1, 1, none⟩ = some (.int .i64 n) := HB.out.x.cell 1
    have i3 : ¬ w.heap.size = w.heap.size + 1 + 1 := by omega
    have i4 : ¬ w.heap.size + 1 + 1 = w.heap.size := by omega
    have i5 : ¬ w.heap.size + 1 = w.heap.size + 1 + 1 := by omega
    have i6 : ¬ w.heap.size + 1 + 1 = w.heap.size + 1 := by omega
    go_region_held3 (fun W => W.cell? ⟨w.heap.size, 0, none⟩ = some (.int .i64 s.width) ∧ W.cell? ⟨w.heap.size, 1, none⟩ = some (.int .i64 s.now) ∧ W.cell? ⟨w.heap.size, 2, none⟩ = some (.slice A1 m1 c1) ∧ W.cell? ⟨w.heap.size, 3, none⟩ = some (.slice A2 m2 c2) ∧ W.cell? ⟨w.heap.size, 4, none⟩ = some (.int .i64 s.offered) ∧ W.cell? ⟨w.heap.size, 5, none⟩ = some (.int .i64 s.lost) ∧ W.cell? ⟨w.heap.size + 1, 1, none⟩ = some (.int .i64 n))
        (go_keep)
        (first
          | (go_at_call 63; refine (roffer_any n HH.out.ref.drew_ HH.out.run.ok (by omega) HBS.out).mono ?_; rintro e w4 ⟨A3, m3, c3, he, hr4, hb4, hl4⟩; rw [HS1.out] at he hr4; unfold rcells at he; subst he; have HU4 := Lib.hid (HH.out.run.drew_.on_ hb4); have HN4 := Lib.hid (HB.out.drew.on hb4); have HR4 := Lib.hid hr4; have HP4 := Lib.hid (hl4 (w.heap.size + 1 + 1) (by have := HZ.out; simp only [World.drew] at this ⊢; omega) HAP.out); have HLT : Hid (Later w (.slice A1 m1 c1) (.slice A2 m2 c2) (.slice A3 m3 c3) (.slice A2 m2 c2)) := Lib.hid fun g hg ha => hl4 g (by have := HZ.out; simp only [World.drew] at this ⊢; omega) ha; clear hr4 hb4 hl4; have e0 : w4.cell? ⟨w.heap.size, 0, none⟩ = some (.int .i64 s.width) := HN4.out.p.cell 0; have e1 : w4.cell? ⟨w.heap.size, 1, none⟩ = some (.int .i64 s.now) := HN4.out.p.cell 1; have e2 : w4.cell? ⟨w.heap.size, 2, none⟩ = some (.slice A1 m1 c1) := HN4.out.p.cell 2; have e3 : w4.cell? ⟨w.heap.size, 3, none⟩ = some (.slice A2 m2 c2) := HN4.out.p.cell 3; have e4 : w4.cell? ⟨w.heap.size, 4, none⟩ = some (.int .i64 s.offered) := HN4.out.p.cell 4; have e5 : w4.cell? ⟨w.heap.size, 5, none⟩ = some (.int .i64 s.lost) := HN4.out.p.cell 5; have x1 : w4.cell? ⟨w.heap.size + 1, 1, none⟩ = some (.int .i64 n) := HN4.out.x.cell 1; have r3 := HN4.out.r.cell; have f3 := HN4.out.r.free)
          | (go_at_call 13; refine (TI.offer_run n HU4.out (by omega)).mono ?_; rintro e w5 ⟨rfl, hu5, hg5⟩; rw [HS1.out] at hu5; have HN5 := Lib.hid (HN4.out.turn hg5 hbz); have HB6 := Lib.hid (Both.mk hu5 (HR4.out.grown_ hg5 (Nat.lt_succ_self _))); clear hu5 hg5; have e0 : w5.cell? ⟨w.heap.size, 0, none⟩ = some (.int .i64 s.width) := HN5.out.p.cell 0; have e1 : w5.cell? ⟨w.heap.size, 1, none⟩ = some (.int .i64 s.now) := HN5.out.p.cell 1; have e2 : w5.cell? ⟨w.heap.size, 2, none⟩ = some (.slice A1 m1 c1) := HN5.out.p.cell 2; have e3 : w5.cell? ⟨w.heap.size, 3, none⟩ = some (.slice A2 m2 c2) := HN5.out.p.cell 3; have e4 : w5.cell? ⟨w.heap.size, 4, none⟩ = some (.int .i64 s.offered) := HN5.out.p.cell 4; have e5 : w5.cell? ⟨w.heap.size, 5, none⟩ = some (.int .i64 s.lost) := HN5.out.p.cell 5; have x1 : w5.cell? ⟨w.heap.size + 1, 1, none⟩ = some (.int .i64 n) := HN5.out.x.cell 1; have r3 := HN5.out.r.cell; have f3 := HN5.out.r.free))
    all_goals
      go_wp2
      exact bodyPost_ret (v := .tuple #[.agg #[.int .i64 s1.width, .int .i64 s1.now, .slice A3 m3 c3, .slice A2 m2 c2, .int .i64 s1.offered, .int .i64 s1.lost], .bool true]) (by simp [results, Try.results49, go_sem, r3]) rfl ⟨_, _, _, _, _, _, rfl, (HB6.out).set6_ HP4.out (by omega) _ _ _ _ _ _, HN5.out.end_ _ _ _ _ _ _, HLT.out⟩
end
end Go.Proofs.Ythbefhpgpebkgaa
