/- ThrottleSums, walked. Conditions: a slice of steps that reads as numbers of their types. -/
import Derived.Test.YthbefhpgpebkgaaLaws1
namespace Go.Proofs.Ythbefhpgpebkgaa
open Go.RowKit

theorem Thr.clear_ready (s : Thr.St Int) : Thr.ready (Thr.clear 0 s) = false := rfl
theorem Thr.clear_waits (s : Thr.St Int) : (Thr.clear 0 s).waits = false := rfl

theorem Thr.cleared {n : Int} {k : Nat} {p : Thr.Pl} (h : Thr.Good n k p) : ((Thr.clear 0 (Thr.clear 0 p.st)).taken == (p.out.length : Int)) = true ∧
    ((Thr.clear 0 (Thr.clear 0 p.st)).offered == (Thr.clear 0 (Thr.clear 0 p.st)).taken + (Thr.clear 0 (Thr.clear 0 p.st)).lost) = true ∧ (Thr.clear 0 (Thr.clear 0 p.st)).waits = false := by
  have h1 := h.len
  have h2 := h.sum
  refine ⟨by simpa [Thr.clear] using h1, ?_, rfl⟩
  simp only [Thr.clear, Bool.false_eq_true, if_false]
  cases hw : p.st.waits <;> simp [hw] at h2 ⊢ <;> omega

set_option maxRecDepth 100000 in
set_option maxHeartbeats 1000000 in
theorem sums_any (n : Int) (A : Option Addr) (m c : Nat) (xs : List (Int × Int)) (cl : Bool) (w : World) (h0 : 0 ≤ n) (h1 : n ≤ 4294967295) (hs : Smalls w w.heap.size A m c xs) :
    Calls Try.prog 10 #[.int .u32 n, .slice A m c, .bool cl] w fun e w' => e = .returned (.bool true) ∧ Below w.heap.size w w' := by
  obtain ⟨k, hk, hg⟩ := good_of n xs hs.fit
  have c0 := awake_any w
  have HS := Lib.hid hs
  clear hs
  cases cl
  · go_enter Try.func10, Try.ntmps10
    go_wp2_with fail
    refine c0.mono ?_
    rintro e w1 ⟨rfl, hb1⟩
    clear c0
    have HB1 := Lib.hid hb1
    clear hb1
    go_wp2_with fail
    refine (played_form (n % 1048577) A m c xs w1 (by omega) (by omega) (HS.out.below HB1.out)).mono ?_
    rintro e w2 ⟨A', c', rfl, hr2, -⟩
    generalize Thr.after (n % 1048577) (xs.take 200) = p at *
    have hlen := hg.len
    have hsum := hg.sum
    have ht0 := hg.ok.t0
    have ht1 := hg.ok.t1
    have hx0 := hg.ok.x0
    have hx1 := hg.ok.x1
    have HR2 := Lib.hid hr2
    clear hg hr2
    go_wp2_with fail
    refine (TI.counts_run HR2.out).mono ?_
    rintro e w3 ⟨rfl, hr3, -⟩
    have HR3 := Lib.hid hr3
    clear hr3
    have HL := Lib.hid hlen
    have HSu := Lib.hid hsum
    clear hlen hsum
    rcases hw : p.st.waits with _ | _
    · have hq1 : (p.st.taken == (p.out.length : Int)) = true := by simp [HL.out]
      have hq2 : (p.st.offered == p.st.taken + p.st.lost) = true := by have := HSu.out; rw [hw] at this; simp at this ⊢; omega
      go_wp2_with fail
      refine (TI.waits_run HR3.out).mono ?_
      rintro e w4 ⟨rfl, hr4, -⟩
      have HR4 := Lib.hid hr4
      clear hr4
      go_wp2
      go_ret
      exact ⟨rfl, HB1.out.trans (HR4.out.below.mono HB1.out.size)⟩
    · have hq1 : (p.st.taken == (p.out.length : Int)) = true := by simp [HL.out]
      have hq2 : (p.st.offered == p.st.taken + p.st.lost + 1) = true := by have := HSu.out; rw [hw] at this; simp at this ⊢; omega
      go_wp2_with fail
      refine (TI.waits_run HR3.out).mono ?_
      rintro e w4 ⟨rfl, hr4, -⟩
      have HR4 := Lib.hid hr4
      clear hr4
      go_wp2
      go_ret
      exact ⟨rfl, HB1.out.trans (HR4.out.below.mono HB1.out.size)⟩
  · go_enter Try.func10, Try.ntmps10
    go_wp2_with fail
    refine c0.mono ?_
    rintro e w1 ⟨rfl, hb1⟩
    clear c0
    have HB1 := Lib.hid hb1
    clear hb1
    go_wp2_with fail
    refine (played_form (n % 1048577) A m c xs w1 (by omega) (by omega) (HS.out.below HB1.out)).mono ?_
    rintro e w2 ⟨A', c', rfl, hr2, -⟩
    generalize Thr.after (n % 1048577) (xs.take 200) = p at *
    have HQ := Lib.hid (Thr.cleared hg)
    have HR2 := Lib.hid hr2
    clear hg hr2
    go_wp2_with fail
    refine (TI.waits_run HR2.out).mono ?_
    rintro e w3 ⟨rfl, hr3, -⟩
    have HR3 := Lib.hid hr3
    clear hr3
    go_wp2_with fail
    refine (TI.clearM_run HR3.out (by omega)).mono ?_
    rintro e w4 ⟨rfl, hr4, -⟩
    have HR4 := Lib.hid hr4
    clear hr4
    go_wp2_with fail
    refine (TI.waits_run HR4.out).mono ?_
    rintro e w5 ⟨rfl, hr5, -⟩
    have HR5 := Lib.hid hr5
    clear hr5
    go_wp2_with fail
    refine (TI.ready_run HR5.out).mono ?_
    rintro e w6 ⟨rfl, hr6, -⟩
    have HR6 := Lib.hid hr6
    clear hr6
    go_wp2_with fail
    refine (TI.clearM_run HR6.out (by omega)).mono ?_
    rintro e w7 ⟨rfl, hr7, -⟩
    have HR7 := Lib.hid hr7
    clear hr7
    obtain ⟨hq1, hq2, hq3⟩ := HQ.out
    have ht0 := HR7.out.ok.t0
    have ht1 := HR7.out.ok.t1
    have hx0 := HR7.out.ok.x0
    have hx1 := HR7.out.ok.x1
    generalize Thr.clear 0 (Thr.clear 0 p.st) = s2 at *
    go_wp2_with fail
    refine (TI.counts_run HR7.out).mono ?_
    rintro e w8 ⟨rfl, hr8, -⟩
    have HR8 := Lib.hid hr8
    clear hr8
    go_wp2_with fail
    refine (TI.waits_run HR8.out).mono ?_
    rintro e w9 ⟨rfl, hr9, -⟩
    have HR9 := Lib.hid hr9
    clear hr9
    go_wp2
    go_ret
    exact ⟨rfl, HB1.out.trans (HR9.out.below.mono HB1.out.size)⟩
end Go.Proofs.Ythbefhpgpebkgaa
