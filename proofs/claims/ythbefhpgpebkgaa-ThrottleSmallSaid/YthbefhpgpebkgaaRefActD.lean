/- 'act', walked: 4, 5 take. Conditions: the throttle and the reference's state in memory, numbers in bounds. -/
import Derived.Test.YthbefhpgpebkgaaRefAct0
namespace Go.Proofs.Ythbefhpgpebkgaa
open Go.RowKit

section
variable {b : Nat} {s : Thr.St Int} {wv hv : Value} {kind n : Int} {w W0 : World} {N : Int} {hs : List Int}

set_option maxRecDepth 100000 in
set_option maxHeartbeats 4000000 in
theorem act_take (s1 : Thr.St Int) (hs1 : Thr.take 0 s = s1) (hk : kind % 7 = 4 ∨ kind % 7 = 5) (h : Both W0 w b N s hs wv hv) (hN : N ≤ 1000000) (k0 : 0 ≤ kind) (k1 : kind ≤ 255) :
    Calls Try.prog 49 #[.pointer (some ⟨b, 0, none⟩), .agg #[.int .i64 s.width, .int .i64 s.now, wv, hv, .int .i64 s.offered, .int .i64 s.lost], .agg #[.int .u8 kind, .int .i64 n]] w
      fun e w' => ∃ A m c A' m' c', e = .returned (.tuple #[.agg (rcells s1 (.slice A m c) (.slice A' m' c')), .bool true]) ∧ Both W0 w' b (N + 1) s1 (Thr.rtake s hs) (.slice A m c) (.slice A' m' c') ∧ w.grownBy w' (some b) ∧ Later w wv hv (.slice A m c) (.slice A' m' c') := by
  rcases hk with hk | hk
  · obtain ⟨A1, m1, c1, rfl⟩ := h.ref.wshape
    obtain ⟨A2, c2, rfl⟩ := h.ref.hshape
    have hap := h.ref.apart_ (show w.heap.size ≤ w.heap.size + 1 + 1 by omega)
    have hlen := h.ref.rf.tk
    have ht1 := h.run.ok.t1
    obtain ⟨m2, hm2⟩ : ∃ m2, hs.length = m2 := ⟨_, rfl⟩
    rw [hm2] at h hap ⊢
    have hn0 := h.run.ok.n0
    have hn1 := h.run.ok.n1
    have HB := Lib.hid (Bx.start (s := s) (wv := .slice A1 m1 c1) (hv := .slice A2 m2 c2) (kind := kind) (n := n) w b)
    have hbl : Below w.heap.size w (((w.alloc (.cells #[.int .i64 s.width, .int .i64 s.now, .slice A1 m1 c1, .slice A2 m2 c2, .int .i64 s.offered, .int .i64 s.lost] 81)).alloc (.cells #[.int .u8 kind, .int .i64 n] 58)).alloc (.cells #[.int .i64 0, .int .i64 0, .slice none 0 0, .slice none 0 0, .int .i64 0, .int .i64 0] 81)) :=
      (((Below.refl _ _).alloc (Nat.le_refl _) _).alloc (by simp) _).alloc (by simp; omega) _
    have HH := Lib.hid (h.on_ hbl)
    have hzz : (((w.alloc (.cells #[.int .i64 s.width, .int .i64 s.now, .slice A1 m1 c1, .slice A2 m2 c2, .int .i64 s.offered, .int .i64 s.lost] 81)).alloc (.cells #[.int .u8 kind, .int .i64 n] 58)).alloc (.cells #[.int .i64 0, .int .i64 0, .slice none 0 0, .slice none 0 0, .int .i64 0, .int .i64 0] 81)).heap.size = w.heap.size + 1 + 1 + 1 := by simp
    have HZ := Lib.hid hzz
    have hbz : b < w.heap.size := Has.lt h.run.at_
    have HAP := Lib.hid hap
    have HL : Hid (hs.length ≤ 1000000) := by show _ ≤ _; omega
    have HBS : Hid (b + 1 ≤ (((w.alloc (.cells #[.int .i64 s.width, .int .i64 s.now, .slice A1 m1 c1, .slice A2 m2 c2, .int .i64 s.offered, .int .i64 s.lost] 81)).alloc (.cells #[.int .u8 kind, .int .i64 n] 58)).alloc (.cells #[.int .i64 0, .int .i64 0, .slice none 0 0, .slice none 0 0, .int .i64 0, .int .i64 0] 81)).heap.size) := by show _ ≤ _; rw [hzz]; omega
    have HS1 := Lib.hid hs1
    have d0 : (kind % 7 == 0) = false := by simp; omega
    have d1 : (kind % 7 == 1) = false := by simp; omega
    have d2 : (kind % 7 == 2) = false := by simp; omega
    have d3 : (kind % 7 == 3) = false := by simp; omega
    have d4 : (kind % 7 == 4) = true := by simp; omega
    clear hbl h hm2 hs1 hk hap hlen ht1 hzz
    go_enter Try.func49, Try.ntmps49
    go_wp2_with fail
    refine (rtake_any HH.out.ref HH.out.run.ok HBS.out HL.out).mono ?_
    rintro e w1 ⟨A3, m3, c3, A4, m4, c4, he, hr1, hb1, hl1⟩
    rw [HS1.out] at he hr1
    unfold rcells at he
    subst he
    have HP := Lib.hid (hl1 (w.heap.size + 1 + 1) (by have := HZ.out; omega) HAP.out)
    have HLT := Lib.hid (show Later w _ _ _ _ from fun g hg ha => hl1 g (by have := HZ.out; omega) ha)
    clear hl1
    have HN := Lib.hid ((HB.out.on hb1).alloc (.cells #[.int .i64 s1.width, .int .i64 s1.now, .slice A3 m3 c3, .slice A4 m4 c4, .int .i64 s1.offered, .int .i64 s1.lost] 81))
    have HU := Lib.hid ((HH.out.run.on_ hb1).alloc_ (.cells #[.int .i64 s1.width, .int .i64 s1.now, .slice A3 m3 c3, .slice A4 m4 c4, .int .i64 s1.offered, .int .i64 s1.lost] 81))
    have HV := Lib.hid (hr1.on_ ((Below.refl _ _).alloc (Nat.le_refl _) (.cells #[.int .i64 s1.width, .int .i64 s1.now, .slice A3 m3 c3, .slice A4 m4 c4, .int .i64 s1.offered, .int .i64 s1.lost] 81)))
    have HX := Lib.hid (Has.made w1 81 #[.int .i64 s1.width, .int .i64 s1.now, .slice A3 m3 c3, .slice A4 m4 c4, .int .i64 s1.offered, .int .i64 s1.lost])
    have hz1 : w.heap.size + 1 + 1 < w1.heap.size := Has.lt (HB.out.on hb1).r
    clear hr1 hb1
    go_wp2_with fail
    refine (TI.take_run HU.out (by omega)).mono ?_
    rintro e w3 ⟨rfl, hu3, hg3⟩
    rw [HS1.out] at hu3
    have HN3 := Lib.hid (HN.out.turn hg3 hbz)
    have HX3 := Lib.hid (HX.out.grown hg3 (by simp; omega))
    have HB3 := Lib.hid (Both.mk hu3 (HV.out.grown_ hg3 (Nat.lt_succ_self _)))
    have r3 := HN3.out.r.cell
    have f3 := HN3.out.r.free
    have e0 : w3.cell? ⟨w1.heap.size, 0, none⟩ = some (.int .i64 s1.width) := HX3.out.cell 0
    have e1 : w3.cell? ⟨w1.heap.size, 1, none⟩ = some (.int .i64 s1.now) := HX3.out.cell 1
    have e2 : w3.cell? ⟨w1.heap.size, 2, none⟩ = some (.slice A3 m3 c3) := HX3.out.cell 2
    have e3 : w3.cell? ⟨w1.heap.size, 3, none⟩ = some (.slice A4 m4 c4) := HX3.out.cell 3
    have e4 : w3.cell? ⟨w1.heap.size, 4, none⟩ = some (.int .i64 s1.offered) := HX3.out.cell 4
    have e5 : w3.cell? ⟨w1.heap.size, 5, none⟩ = some (.int .i64 s1.lost) := HX3.out.cell 5
    clear hu3 hg3
    have i3 : ¬ w.heap.size = w.heap.size + 1 + 1 := by omega
    have i4 : ¬ w.heap.size + 1 + 1 = w.heap.size := by omega
    have i5 : ¬ w.heap.size + 1 = w.heap.size + 1 + 1 := by omega
    have i6 : ¬ w.heap.size + 1 + 1 = w.heap.size + 1 := by omega
    all_goals
      go_wp2
      exact bodyPost_ret (v := .tuple #[.agg #[.int .i64 s1.width, .int .i64 s1.now, .slice A3 m3 c3, .slice A4 m4 c4, .int .i64 s1.offered, .int .i64 s1.lost], .bool true]) (by simp [results, Try.results49, go_sem, r3]) rfl ⟨_, _, _, _, _, _, rfl, (HB3.out).set6_ HP.out (by omega) _ _ _ _ _ _, HN3.out.end_ _ _ _ _ _ _, HLT.out⟩
  · obtain ⟨A1, m1, c1, rfl⟩ := h.ref.wshape
    obtain ⟨A2, c2, rfl⟩ := h.ref.hshape
    have hap := h.ref.apart_ (show w.heap.size ≤ w.heap.size + 1 + 1 by omega)
    have hlen := h.ref.rf.tk
    have ht1 := h.run.ok.t1
    obtain ⟨m2, hm2⟩ : ∃ m2, hs.length = m2 := ⟨_, rfl⟩
    rw [hm2] at h hap ⊢
    have hn0 := h.run.ok.n0
    have hn1 := h.run.ok.n1
    have HB := Lib.hid (Bx.start (s := s) (wv := .slice A1 m1 c1) (hv := .slice A2 m2 c2) (kind := kind) (n := n) w b)
    have hbl : Below w.heap.size w (((w.alloc (.cells #[.int .i64 s.width, .int .i64 s.now, .slice A1 m1 c1, .slice A2 m2 c2, .int .i64 s.offered, .int .i64 s.lost] 81)).alloc (.cells #[.int .u8 kind, .int .i64 n] 58)).alloc (.cells #[.int .i64 0, .int .i64 0, .slice none 0 0, .slice none 0 0, .int .i64 0, .int .i64 0] 81)) :=
      (((Below.refl _ _).alloc (Nat.le_refl _) _).alloc (by simp) _).alloc (by simp; omega) _
    have HH := Lib.hid (h.on_ hbl)
    have hzz : (((w.alloc (.cells #[.int .i64 s.width, .int .i64 s.now, .slice A1 m1 c1, .slice A2 m2 c2, .int .i64 s.offered, .int .i64 s.lost] 81)).alloc (.cells #[.int .u8 kind, .int .i64 n] 58)).alloc (.cells #[.int .i64 0, .int .i64 0, .slice none 0 0, .slice none 0 0, .int .i64 0, .int .i64 0] 81)).heap.size = w.heap.size + 1 + 1 + 1 := by simp
    have HZ := Lib.hid hzz
    have hbz : b < w.heap.size := Has.lt h.run.at_
    have HAP := Lib.hid hap
    have HL : Hid (hs.length ≤ 1000000) := by show _ ≤ _; omega
    have HBS : Hid (b + 1 ≤ (((w.alloc (.cells #[.int .i64 s.width, .int .i64 s.now, .slice A1 m1 c1, .slice A2 m2 c2, .int .i64 s.offered, .int .i64 s.lost] 81)).alloc (.cells #[.int .u8 kind, .int .i64 n] 58)).alloc (.cells #[.int .i64 0, .int .i64 0, .slice none 0 0, .slice none 0 0, .int .i64 0, .int .i64 0] 81)).heap.size) := by show _ ≤ _; rw [hzz]; omega
    have HS1 := Lib.hid hs1
    have d0 : (kind % 7 == 0) = false := by simp; omega
    have d1 : (kind % 7 == 1) = false := by simp; omega
    have d2 : (kind % 7 == 2) = false := by simp; omega
    have d3 : (kind % 7 == 3) = false := by simp; omega
    have d4 : (kind % 7 == 4) = false := by simp; omega
    have d5 : (kind % 7 == 5) = true := by simp; omega
    clear hbl h hm2 hs1 hk hap hlen ht1 hzz
    go_enter Try.func49, Try.ntmps49
    go_wp2_with fail
    refine (rtake_any HH.out.ref HH.out.run.ok HBS.out HL.out).mono ?_
    rintro e w1 ⟨A3, m3, c3, A4, m4, c4, he, hr1, hb1, hl1⟩
    rw [HS1.out] at he hr1
    unfold rcells at he
    subst he
    have HP := Lib.hid (hl1 (w.heap.size + 1 + 1) (by have := HZ.out; omega) HAP.out)
    have HLT := Lib.hid (show Later w _ _ _ _ from fun g hg ha => hl1 g (by have := HZ.out; omega) ha)
    clear hl1
    have HN := Lib.hid ((HB.out.on hb1).alloc (.cells #[.int .i64 s1.width, .int .i64 s1.now, .slice A3 m3 c3, .slice A4 m4 c4, .int .i64 s1.offered, .int .i64 s1.lost] 81))
    have HU := Lib.hid ((HH.out.run.on_ hb1).alloc_ (.cells #[.int .i64 s1.width, .int .i64 s1.now, .slice A3 m3 c3, .slice A4 m4 c4, .int .i64 s1.offered, .int .i64 s1.lost] 81))
    have HV := Lib.hid (hr1.on_ ((Below.refl _ _).alloc (Nat.le_refl _) (.cells #[.int .i64 s1.width, .int .i64 s1.now, .slice A3 m3 c3, .slice A4 m4 c4, .int .i64 s1.offered, .int .i64 s1.lost] 81)))
    have HX := Lib.hid (Has.made w1 81 #[.int .i64 s1.width, .int .i64 s1.now, .slice A3 m3 c3, .slice A4 m4 c4, .int .i64 s1.offered, .int .i64 s1.lost])
    have hz1 : w.heap.size + 1 + 1 < w1.heap.size := Has.lt (HB.out.on hb1).r
    clear hr1 hb1
    go_wp2_with fail
    refine (TI.take_run HU.out (by omega)).mono ?_
    rintro e w3 ⟨rfl, hu3, hg3⟩
    rw [HS1.out] at hu3
    have HN3 := Lib.hid (HN.out.turn hg3 hbz)
    have HX3 := Lib.hid (HX.out.grown hg3 (by simp; omega))
    have HB3 := Lib.hid (Both.mk hu3 (HV.out.grown_ hg3 (Nat.lt_succ_self _)))
    have r3 := HN3.out.r.cell
    have f3 := HN3.out.r.free
    have e0 : w3.cell? ⟨w1.heap.size, 0, none⟩ = some (.int .i64 s1.width) := HX3.out.cell 0
    have e1 : w3.cell? ⟨w1.heap.size, 1, none⟩ = some (.int .i64 s1.now) := HX3.out.cell 1
    have e2 : w3.cell? ⟨w1.heap.size, 2, none⟩ = some (.slice A3 m3 c3) := HX3.out.cell 2
    have e3 : w3.cell? ⟨w1.heap.size, 3, none⟩ = some (.slice A4 m4 c4) := HX3.out.cell 3
    have e4 : w3.cell? ⟨w1.heap.size, 4, none⟩ = some (.int .i64 s1.offered) := HX3.out.cell 4
    have e5 : w3.cell? ⟨w1.heap.size, 5, none⟩ = some (.int .i64 s1.lost) := HX3.out.cell 5
    clear hu3 hg3
    have i3 : ¬ w.heap.size = w.heap.size + 1 + 1 := by omega
    have i4 : ¬ w.heap.size + 1 + 1 = w.heap.size := by omega
    have i5 : ¬ w.heap.size + 1 = w.heap.size + 1 + 1 := by omega
    have i6 : ¬ w.heap.size + 1 + 1 = w.heap.size + 1 := by omega
    all_goals
      go_wp2
      exact bodyPost_ret (v := .tuple #[.agg #[.int .i64 s1.width, .int .i64 s1.now, .slice A3 m3 c3, .slice A4 m4 c4, .int .i64 s1.offered, .int .i64 s1.lost], .bool true]) (by simp [results, Try.results49, go_sem, r3]) rfl ⟨_, _, _, _, _, _, rfl, (HB3.out).set6_ HP.out (by omega) _ _ _ _ _ _, HN3.out.end_ _ _ _ _ _ _, HLT.out⟩
end
end Go.Proofs.Ythbefhpgpebkgaa
